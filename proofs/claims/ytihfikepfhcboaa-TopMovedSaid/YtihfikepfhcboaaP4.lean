/-
  Plain laws of placements: the first ones are right; a move that is not hindered keeps them right.
-/
import Derived.Test.YtihfikepfhcboaaP3
namespace Go.Proofs.Ytihfikepfhcboaa
open Go.RowKit Go.Maps

theorem ring_right {nodes n groups : Nat} (h1 : nodes ≤ 9) (h2 : 1 ≤ n) (h3 : n ≤ nodes) : ∀ p ∈ ring nodes n groups, PRight p := by
  intro p hp
  obtain ⟨g, _, rfl⟩ := List.mem_map.1 hp
  have hm : ∀ x ∈ ringNodes nodes n g, 0 ≤ x ∧ x < 256 := by
    intro x hx
    obtain ⟨i, _, rfl⟩ := List.mem_map.1 hx
    have := Nat.mod_lt (g + i) (show 0 < nodes by omega)
    omega
  refine ⟨Int.le_refl 1, by show (1 : Int) ≤ 1000; decide, by simpa [ringNodes] using h2, by simp [ringNodes]; omega, fun x hx => (hm x hx).1, fun x hx => (hm x hx).2, ?_⟩
  show ((List.range n).map fun i => (((g + i) % nodes : Nat) : Int)).Nodup
  rw [List.Nodup, List.pairwise_map]
  refine List.Pairwise.imp_of_mem (fun {i j} hi hj (h : i < j) e => ?_) List.pairwise_lt_range
  have hi := List.mem_range.1 hi
  have hj := List.mem_range.1 hj
  have e' : (g + i) % nodes = (g + j) % nodes := by exact_mod_cast e
  have hn : 0 < nodes := by omega
  have := Nat.sub_mod_eq_zero_of_mod_eq e'.symm
  rw [show g + j - (g + i) = j - i by omega, Nat.mod_eq_of_lt (by omega)] at this
  omega

theorem nodup_set {l : List Int} (h : l.Nodup) {x : Int} (hx : x ∉ l) (n : Nat) : (l.set n x).Nodup := by
  rw [List.Nodup, List.pairwise_iff_getElem] at h ⊢
  intro i j hi hj hij
  rw [List.getElem_set, List.getElem_set]
  have hi' : i < l.length := by simpa using hi
  have hj' : j < l.length := by simpa using hj
  have m1 := List.getElem_mem hi'
  have m2 := List.getElem_mem hj'
  have := h i j hi' hj' hij
  by_cases e1 : n = i
  · rw [if_pos e1, if_neg (by omega)]
    exact fun e => hx (e ▸ m2)
  · rw [if_neg e1]
    by_cases e2 : n = j
    · rw [if_pos e2]; exact fun e => hx (e ▸ m1)
    · rw [if_neg e2]; exact this

theorem mv1_right {frm tt : Int} {p : Place} (h : PRight p) (he : p.ep ≤ 999) (t0 : 0 ≤ tt) (t1 : tt < 256) (hh : hinders frm tt p = false) : PRight (mv1 frm tt p) := by
  unfold mv1
  by_cases hf : frm ∈ p.nodes
  · rw [if_pos hf]
    have hn : tt ∉ p.nodes := fun ht => by simp [hinders, hf, ht] at hh
    have hm : ∀ x ∈ p.nodes.set (idx frm p.nodes 0).toNat tt, x ∈ p.nodes ∨ x = tt := fun x hx => List.mem_or_eq_of_mem_set hx
    refine ⟨by have := h.e0; show 1 ≤ p.ep + 1; omega, by show p.ep + 1 ≤ 1000; omega, by simpa using h.l0, by simpa using h.l1, fun x hx => ?_, fun x hx => ?_, ?_⟩
    · rcases hm x hx with h1 | rfl
      · exact h.n0 x h1
      · exact t0
    · rcases hm x hx with h1 | rfl
      · exact h.n1 x h1
      · exact t1
    · exact nodup_set h.nd hn _
  · rw [if_neg hf]; exact h
end Go.Proofs.Ytihfikepfhcboaa
