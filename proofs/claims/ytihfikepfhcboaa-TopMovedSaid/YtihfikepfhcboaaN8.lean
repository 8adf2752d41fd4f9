/-
  Walks: place.Move.
-/
import Derived.Test.YtihfikepfhcboaaN7
namespace Go.Proofs.Ytihfikepfhcboaa
open Go.RowKit

theorem idx_mem {n : Int} : ∀ {l : List Int} {k : Int}, n ∈ l → ∃ (i : Nat), idx n l k = k + i ∧ ∃ h : i < l.length, l[i] = n
  | x :: xs, k, h => by
    by_cases e : x = n
    · exact ⟨0, by simp [idx, e], by simp, e⟩
    · obtain ⟨i, h1, h2, h3⟩ := idx_mem (k := k + 1) (show n ∈ xs by simpa [Ne.symm e] using h)
      exact ⟨i + 1, by rw [idx, if_neg e, h1]; push_cast; omega, by simpa using h2, by simpa using h3⟩

theorem idx_mem0 {n : Int} {l : List Int} (h : n ∈ l) : ∃ (i : Nat), idx n l 0 = i ∧ i < l.length := by
  obtain ⟨i, h1, h2, _⟩ := idx_mem (k := 0) h
  exact ⟨i, by rw [h1]; omega, h2⟩

def hinders (frm tt : Int) (p : Place) : Bool := decide (frm ∈ p.nodes) && (decide (tt ∈ p.nodes) || decide (1099511627776 ≤ p.ep))

set_option maxHeartbeats 1000000 in
set_option maxRecDepth 100000 in
theorem hinders_any (x : Place) (cs : List Value) (b4 b5 : Nat) (frm tt : Int) (w : World) (h : kPlace.rd w x cs) (h4 : w.cell? ⟨b4, 0, none⟩ = some (.int .i64 frm)) (h5 : w.cell? ⟨b5, 0, none⟩ = some (.int .i64 tt)) :
    Calls Try.prog 117 #[.agg cs.toArray, .pointer (some ⟨b4, 0, none⟩), .pointer (some ⟨b5, 0, none⟩)] w (Ret (.bool (hinders frm tt x)) w) := by
  obtain ⟨u, rfl, h1⟩ := kPlace_open h
  obtain ⟨A, c, rfl, _⟩ := rd_slice h1
  have H := hid h
  have l4 := World.block_lt_of_cell? w ⟨b4, 0, none⟩ h4
  have l5 := World.block_lt_of_cell? w ⟨b5, 0, none⟩ h5
  have S0 := hid ((Star.nil w).box2 w.heap.size rfl [.int .i64 x.ep, .slice A x.nodes.length c] 214)
  have G4 : ∀ w' : World, Below w.heap.size w w' → w'.cell? ⟨b4, 0, none⟩ = some (.int .i64 frm) := fun w' hb => (World.cell?_of_block (hb.block _ l4)).trans h4
  have G5 : ∀ w' : World, Below w.heap.size w w' → w'.cell? ⟨b5, 0, none⟩ = some (.int .i64 tt) := fun w' hb => (World.cell?_of_block (hb.block _ l5)).trans h5
  have HG4 := hid G4
  have HG5 := hid G5
  have k4 := G4 _ (below1 w (.cells #[.int .i64 x.ep, .slice A x.nodes.length c] 214))
  have k5 := G5 _ (below1 w (.cells #[.int .i64 x.ep, .slice A x.nodes.length c] 214))
  clear G4 G5 h h1 l4 l5
  by_cases hf : frm ∈ x.nodes
  · obtain ⟨i, hi, _⟩ := idx_mem0 hf
    have HIX : ∀ (cs : List Value) (w : World) (h : kPlace.rd w x cs), Calls Try.prog 115 #[.agg cs.toArray, .int .i64 frm] w (Ret (.int .i64 i) w) := fun v w h => hi ▸ pIndex_any x v frm w h
    have eb1 : decide ((i : Int) ≥ 0) = true := by simp
    have hr : hinders frm tt x = (decide (tt ∈ x.nodes) || decide (1099511627776 ≤ x.ep)) := by simp [hinders, hf]
    rw [hr]
    clear hf hr hi
    have HJX : ∀ (cs : List Value) (w : World) (h : kPlace.rd w x cs), Calls Try.prog 115 #[.agg cs.toArray, .int .i64 tt] w (Ret (.int .i64 (idx tt x.nodes 0)) w) := fun v w h => pIndex_any x v tt w h
    have HE := hid (idx_ge (n := tt) (l := x.nodes))
    go_enter Try.func117, Try.ntmps117
    go_wp2_with (first
      | (go_at_call 115; (with_reducible show Calls Try.prog 115 #[_, Value.int .i64 frm] _ _); refine (HIX _ _ (Kn.rd_below H.out (below1 _ _))).mono ?_; rintro e w' ⟨rfl, hb⟩; have S1 := hid (S0.out.go hb); have e0 := S1.out.at 0 rfl 0 _ rfl; have e1 := S1.out.at 0 rfl 1 _ rfl; have e2 := HG4.out _ S1.out.below; have e3 := HG5.out _ S1.out.below)
      | (go_at_call 115; (with_reducible show Calls Try.prog 115 #[_, Value.int .i64 tt] _ _); refine (HJX _ _ (Kn.rd_below H.out S1.out.below)).mono ?_; rintro e w1 ⟨rfl, hb1⟩; have S2 := hid (S1.out.go hb1); have f0 := S2.out.at 0 rfl 0 _ rfl; have f1 := S2.out.at 0 rfl 1 _ rfl))
    all_goals
      go_ret
      refine ⟨ret_bool ?_, S2.out.below⟩
      first
        | (rw [HE.out]; done)
        | (rw [← HE.out]; simp_all)
  · have hi := idx_of_not (k := 0) hf
    have HIX : ∀ (cs : List Value) (w : World) (h : kPlace.rd w x cs), Calls Try.prog 115 #[.agg cs.toArray, .int .i64 frm] w (Ret (.int .i64 (-1)) w) := fun v w h => hi ▸ pIndex_any x v frm w h
    have hr : hinders frm tt x = false := by simp [hinders, hf]
    rw [hr]
    clear hf hr hi
    go_enter Try.func117, Try.ntmps117
    go_wp2_with (first
      | (go_at_call 115; refine (HIX _ _ (Kn.rd_below H.out (below1 _ _))).mono ?_; rintro e w' ⟨rfl, hb⟩; have S1 := hid (S0.out.go hb)))
    go_ret
    exact ⟨rfl, S1.out.below⟩
end Go.Proofs.Ytihfikepfhcboaa
