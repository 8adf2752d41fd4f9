/-
  Walks of TopMoved's functions: has, rising, Right, Over, Clone, own, Of.
-/
import Derived.Test.YtihfikepfhcboaaM2
namespace Go.Proofs.Ytihfikepfhcboaa
open Go.RowKit

/-- Rising numbers, none twice, from 0 to 1000. -/
structure Rise (l : List Int) : Prop where
  lo : ∀ x ∈ l, 0 ≤ x
  hi : ∀ x ∈ l, x ≤ 1000
  up : l.Pairwise (· < ·)

theorem Rise.lt {l : List Int} (h : Rise l) {i j : Nat} (hj : j < l.length) (hij : i < j) : l[i] < l[j] := List.pairwise_iff_getElem.1 h.up i j _ hj hij

set_option maxHeartbeats 400000 in
set_option maxRecDepth 100000 in
theorem rising_any (l : List Int) (v : Value) (w : World) (h : kInts.rd w l [v]) (hR : Rise l) :
    Calls Try.prog 121 #[v] w (Ret (.bool true) w) := by
  obtain ⟨A, c, rfl, h1, h2, _⟩ := rd_slice h
  have h2 := len63 h2
  have H := hid h
  have HR := hid hR
  clear h hR
  go_enter Try.func121, Try.ntmps121
  go_wp2
  go_loop [3, 4, 7] (fun _ _ i => ∃ k : Nat, i = .int .i64 k ∧ k ≤ l.length) (fun _ _ i => l.length - (intOf i).toNat)
  case atStart => exact ⟨0, rfl, by omega⟩
  case round =>
    obtain ⟨k, rfl, hk⟩ := hrel
    by_cases hlt : k < l.length
    · obtain ⟨ad, rfl, hc⟩ := rd_get1 H.out k hlt
      have g1 := HR.out.lo _ (List.getElem_mem hlt)
      have g2 := HR.out.hi _ (List.getElem_mem hlt)
      by_cases hz : k = 0
      · subst hz
        simp only [Addr.add_zero'] at hc
        go_wp2
        go_round
        case rel => exact ⟨1, by go_num, by omega⟩
        case measure => simp [intOf]; omega
      · obtain ⟨j, rfl⟩ : ∃ j, k = j + 1 := ⟨k - 1, by omega⟩
        obtain ⟨ad', he, hc'⟩ := rd_get1 H.out j (by omega)
        simp only [Option.some.injEq] at he
        subst he
        have g3 := HR.out.lt hlt (Nat.lt_succ_self j)
        simp only [Addr.add_succ'] at hc
        go_wp2
        go_round
        case rel => exact ⟨j + 2, by go_num, by omega⟩
        case measure => simp [intOf]; omega
    · go_wp2
      go_ret
      exact ⟨rfl, Below.refl _ _⟩

/-- A right move. -/
structure MRight (m : Moving) : Prop where
  f0 : 0 ≤ m.from
  f1 : m.from < 256
  t0 : 0 ≤ m.to
  t1 : m.to < 256
  ne : m.from ≠ m.to
  len : m.left.length ≤ 1000
  rise : Rise m.left

/-- A result that needs no memory; the world is as it was. -/
def RetW (v : Value) (w : World) : Ending → World → Prop := fun en w' => en = .returned v ∧ w = w'

theorem mnode_any (n : Int) (w : World) (h0 : 0 ≤ n) (h1 : n < 256) : Calls Try.prog 214 #[.int .i64 n] w (RetW (.bool true) w) := by
  go_enter Try.func214, Try.ntmps214
  go_wp2
  go_ret
  exact ⟨rfl, rfl⟩

theorem below1 (w : World) (o : Obj) : Below w.heap.size w (w.alloc o) := (Below.refl _ _).alloc (Nat.le_refl _) _
theorem bup {w w1 w2 : World} (h : Below w.heap.size w w1) (k : Below w1.heap.size w1 w2) : Below w.heap.size w w2 := h.trans (k.mono h.size)

theorem bcell {W w1 : World} (hb : Below W.heap.size W w1) : (∀ b o, b < W.heap.size → w1.cell? ⟨b, o, none⟩ = W.cell? ⟨b, o, none⟩) ∧ (∀ b o, b < W.heap.size → w1.frozen? ⟨b, o, none⟩ = W.frozen? ⟨b, o, none⟩) :=
  ⟨fun b o h => hb.cell (p := ⟨b, o, none⟩) h, fun b o h => hb.frozen (p := ⟨b, o, none⟩) h⟩

set_option maxHeartbeats 400000 in
set_option maxRecDepth 100000 in
theorem mRight_any (m : Moving) (cs : List Value) (w : World) (h : kMoving.rd w m cs) (hR : MRight m) :
    Calls Try.prog 109 #[.agg cs.toArray] w (Ret (.bool true) w) := by
  obtain ⟨v, rfl, h1⟩ := kMoving_open h
  obtain ⟨A, c, rfl, _, hm, _⟩ := rd_slice h1
  have H := hid h1
  obtain ⟨g1, g2, g3, g4, g5, g6, g7⟩ := hR
  have hne : (m.from != m.to) = true := by simpa using g5
  have HR := hid g7
  clear h h1 hm g5 g7
  go_enter Try.func109, Try.ntmps109
  go_wp2_with (first | (go_at_call 214; refine (mnode_any _ _ (by assumption) (by assumption)).mono ?_; rintro e w' ⟨rfl, rfl⟩) | (go_at_call 121; refine (rising_any m.left _ _ (Kn.rd_below H.out (below1 _ _)) HR.out).mono ?_; rintro e w' ⟨rfl, hb⟩))
  go_ret
  exact ⟨rfl, bup (below1 _ _) hb⟩

set_option maxHeartbeats 400000 in
set_option maxRecDepth 100000 in
theorem mOver_any (m : Moving) (cs : List Value) (w : World) (h : kMoving.rd w m cs) (hR : MRight m) :
    Calls Try.prog 110 #[.agg cs.toArray] w (Ret (.bool (decide (m.left.length = 0))) w) := by
  obtain ⟨v, rfl, h1⟩ := kMoving_open h
  obtain ⟨A, c, rfl, _, hm, _⟩ := rd_slice h1
  have H := hid h
  have HR := hid hR
  have g := hR.len
  clear h h1 hm hR
  go_enter Try.func110, Try.ntmps110
  go_wp2_with (go_at_call 109; refine (mRight_any m _ _ (Kn.rd_below H.out (below1 _ _)) HR.out).mono ?_; rintro e w' ⟨rfl, hb⟩; obtain ⟨hbc, hbf⟩ := bcell hb)
  go_ret
  exact ⟨ret_bool (by rw [Bool.eq_iff_iff]; simp), bup (below1 _ _) hb⟩

end Go.Proofs.Ytihfikepfhcboaa
