/-
  Walks: First, refused; moved17.
-/
import Derived.Test.YtihfikepfhcboaaP1
namespace Go.Proofs.Ytihfikepfhcboaa
open Go.RowKit Go.Maps
set_option maxHeartbeats 1000000 in
set_option maxRecDepth 100000 in
theorem first_no (nodes n groups : Nat) (w : World) (h0 : 1 ≤ nodes) (h1 : nodes ≤ 9) (h2 : n ≤ 9) (h3 : nodes < n) (h4 : 1 ≤ groups) (h5 : groups ≤ 7) :
    Calls Try.prog 24 #[.int .i64 nodes, .int .i64 n, .int .i64 groups] w fun en w' => en = .returned (.tuple #[.slice none 0 0, .int .i64 2]) ∧ Below w.heap.size w w' := by
  go_enter Try.func24, Try.ntmps24
  go_wp2
  go_ret2
  exact ⟨rfl, Below.refl _ _⟩
end Go.Proofs.Ytihfikepfhcboaa
