/-
  Walks: moved17.
-/
import Derived.Test.YtihfikepfhcboaaP2
namespace Go.Proofs.Ytihfikepfhcboaa
open Go.RowKit Go.Maps

/-- A wish to move. -/
structure Shf where
  src : Int
  dst : Int
  mended : List Int
def kShf : Kn Shf := (Kn.pair (.int .u8) (.pair (.int .u8) kBytes)).iso fun m => (m.src, m.dst, m.mended)
theorem kShf_open {w : World} {F : Fp} {m : Shf} {cs : List Value} (h : kShf.rep w F m cs) : ∃ v, cs = [.int .u8 m.src, .int .u8 m.dst, v] ∧ kBytes.rep w F m.mended [v] := by
  obtain ⟨c0, c1, rfl, h0, c2, c3, rfl, h1, h2⟩ := h
  obtain ⟨A, c, he, h2⟩ := h2
  dsimp only at h0 h1 he
  subst he
  exact ⟨_, by rw [show c0 = [.int .u8 m.src] from h0, show c2 = [.int .u8 m.dst] from h1]; rfl, A, c, rfl, h2⟩

set_option maxHeartbeats 2000000 in
set_option maxRecDepth 100000 in
theorem moved_no (nodes n groups : Nat) (vs vh : Value) (w : World) (h0 : 1 ≤ nodes) (h1 : nodes ≤ 9) (h2 : n ≤ 9) (h3 : nodes < n) (h4 : 1 ≤ groups) (h5 : groups ≤ 7) :
    Calls Try.prog 9 #[.int .i64 nodes, .int .i64 n, .int .i64 groups, vs, vh] w fun en w' => en = .returned (.tuple #[.int .i64 0, .bool true]) ∧ Below w.heap.size w w' := by
  go_enter Try.func9, Try.ntmps9
  go_wp2_with (go_at_call 24; refine (first_no nodes n groups _ h0 h1 h2 h3 h4 h5).mono ?_; rintro e w1 ⟨rfl, hb⟩)
  go_ret2
  exact ⟨rfl, hb⟩
end Go.Proofs.Ytihfikepfhcboaa
