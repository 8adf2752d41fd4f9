/-
  Plain laws: wishes to move, one by one; groups turned one by one; stripes left.
-/
import Derived.Test.YtihfikepfhcboaaP4
namespace Go.Proofs.Ytihfikepfhcboaa
open Go.RowKit Go.Maps

theorem snoc_ind {α : Type} {p : List α → Prop} (h0 : p []) (h1 : ∀ l x, p l → p (l ++ [x])) (l : List α) : p l := by
  have : ∀ m : List α, p m.reverse := fun m => by
    induction m with
    | nil => exact h0
    | cons x m ih => rw [List.reverse_cons]; exact h1 _ _ ih
  simpa using this l.reverse

/-- A wish that may not be. -/
def clash (frm tt : Int) (l : List Place) : Bool := (frm == tt) || l.any fun p => decide (frm ∈ p.nodes) && decide (tt ∈ p.nodes)

theorem hinders_right {frm tt : Int} {p : Place} (h : PRight p) : hinders frm tt p = (decide (frm ∈ p.nodes) && decide (tt ∈ p.nodes)) := by
  have : decide (1099511627776 ≤ p.ep) = false := by rw [decide_eq_false_iff_not]; have := h.e1; omega
  rw [hinders, this, Bool.or_false]

theorem any_hinders {frm tt : Int} {l : List Place} (h : ∀ p ∈ l, PRight p) : l.any (hinders frm tt) = l.any fun p => decide (frm ∈ p.nodes) && decide (tt ∈ p.nodes) := by
  induction l with
  | nil => rfl
  | cons p l ih => rw [List.any_cons, List.any_cons, hinders_right (h p (List.mem_cons_self ..)), ih fun q hq => h q (List.mem_cons_of_mem _ hq)]

theorem clash_true {frm tt : Int} {l : List Place} (h : ∀ p ∈ l, PRight p) (hc : clash frm tt l = true) : frm = tt ∨ l.any (hinders frm tt) = true := by
  rw [clash, Bool.or_eq_true, beq_iff_eq, ← any_hinders h] at hc
  exact hc
theorem clash_false {frm tt : Int} {l : List Place} (h : ∀ p ∈ l, PRight p) (hc : clash frm tt l = false) : frm ≠ tt ∧ l.any (hinders frm tt) = false := by
  rw [clash, Bool.or_eq_false_iff, beq_eq_false_iff_ne, ← any_hinders h] at hc
  exact hc

/-- One wish: placements, and how many stripes were left in all. -/
def turn1 (sl : List Int) (st : List Place × Int) (y : Shf) : List Place × Int :=
  if clash (y.src % 9) (y.dst % 9) st.1 then st else (st.1.map (mv1 (y.src % 9) (y.dst % 9)), st.2 + ((lefts st.1 (y.src % 9) sl).length : Int))
def turns (sl : List Int) (st : List Place × Int) (ys : List Shf) : List Place × Int := ys.foldl (turn1 sl) st

theorem turns_snoc (sl : List Int) (st : List Place × Int) (ys : List Shf) (y : Shf) : turns sl st (ys ++ [y]) = turn1 sl (turns sl st ys) y := by simp [turns]

/-- Placements behind so many wishes. -/
structure Fit (groups k : Nat) (l : List Place) : Prop where
  len : l.length = groups
  right : ∀ p ∈ l, PRight p
  ep : ∀ p ∈ l, p.ep ≤ k + 1

theorem Fit.up {groups k : Nat} {l : List Place} (h : Fit groups k l) : Fit groups (k + 1) l := ⟨h.len, h.right, fun p hp => by have := h.ep p hp; omega⟩

theorem Fit.mv {groups k : Nat} {l : List Place} (h : Fit groups k l) (hk : k ≤ 900) {frm tt : Int} (t0 : 0 ≤ tt) (t1 : tt < 256) (hc : l.any (hinders frm tt) = false) : Fit groups (k + 1) (l.map (mv1 frm tt)) := by
  refine ⟨by rw [List.length_map]; exact h.len, fun p hp => ?_, fun p hp => ?_⟩
  · obtain ⟨q, hq, rfl⟩ := List.mem_map.1 hp
    have := h.ep q hq
    exact mv1_right (h.right q hq) (by omega) t0 t1 (by simpa using (List.any_eq_false.1 hc) q hq)
  · obtain ⟨q, hq, rfl⟩ := List.mem_map.1 hp
    have := h.ep q hq
    unfold mv1
    split
    · show q.ep + 1 ≤ _; omega
    · omega

theorem turn1_len {sl : List Int} {st : List Place × Int} {y : Shf} : (turn1 sl st y).1.length = st.1.length := by
  unfold turn1; split <;> simp

theorem turns_fit {groups : Nat} {l : List Place} (sl : List Int) (h : Fit groups 0 l) : ∀ (ys : List Shf), ys.length ≤ 100 → Fit groups ys.length (turns sl (l, 0) ys).1 ∧ 0 ≤ (turns sl (l, 0) ys).2 ∧ (turns sl (l, 0) ys).2 ≤ ys.length * sl.length := by
  refine snoc_ind ?_ ?_
  · intro _; exact ⟨h, Int.le_refl 0, by simp [turns]⟩
  · intro ys y ih hl
    rw [List.length_append, List.length_singleton] at hl ⊢
    obtain ⟨i1, i2, i3⟩ := ih (by omega)
    rw [turns_snoc]
    have hlen := lefts_len (turns sl (l, 0) ys).1 (y.src % 9) sl
    have hm : (((ys.length + 1 : Nat) : Int)) * (sl.length : Int) = ys.length * sl.length + sl.length := by push_cast; rw [Int.add_mul, Int.one_mul]
    unfold turn1
    by_cases hc : clash (y.src % 9) (y.dst % 9) (turns sl (l, 0) ys).1 = true
    · rw [if_pos hc]
      exact ⟨i1.up, i2, by omega⟩
    · rw [if_neg hc]
      obtain ⟨c1, c2⟩ := clash_false i1.right (by simpa using hc)
      refine ⟨i1.mv (by omega) (Int.emod_nonneg _ (by decide)) (by have := Int.emod_lt_of_pos y.dst (show (0 : Int) < 9 by decide); omega) c2, ?_, ?_⟩
      · show 0 ≤ _ + _; omega
      · show _ + _ ≤ _; omega

/-! ### Groups turned one by one -/
/-- Some groups are turned. -/
def mvs (frm tt : Int) (l : List Place) (ck : List Int) : List Place := ck.foldl (fun L g => L.modify g.toNat (mv1 frm tt)) l
theorem mvs_snoc (frm tt : Int) (l : List Place) (ck : List Int) (g : Int) : mvs frm tt l (ck ++ [g]) = (mvs frm tt l ck).modify g.toNat (mv1 frm tt) := by simp [mvs]
theorem mvs_len (frm tt : Int) (l : List Place) (ck : List Int) : (mvs frm tt l ck).length = l.length := by
  revert ck
  exact snoc_ind rfl fun ck g ih => by rw [mvs_snoc, List.length_modify, ih]

theorem grs_rise (frm : Int) (l : List Place) : (grs frm l).Pairwise (· < ·) := by
  unfold grs
  rw [List.pairwise_filterMap]
  refine List.Pairwise.imp_of_mem (R := fun a b => a.2 < b.2) ?_ ?_
  · intro a b _ _ hab x hx y hy
    by_cases ha : frm ∈ a.1.nodes <;> by_cases hb : frm ∈ b.1.nodes <;> simp [ha, hb] at hx hy
    omega
  · rw [List.pairwise_iff_getElem]
    intro i j hi hj hij
    simp only [List.getElem_zipIdx]
    omega
theorem grs_nodup (frm : Int) (l : List Place) : (grs frm l).Nodup := (grs_rise frm l).imp (fun h => by omega)

theorem mem_grs {frm : Int} {l : List Place} {g : Nat} (hg : g < l.length) : (g : Int) ∈ grs frm l ↔ frm ∈ l[g].nodes := by
  unfold grs
  rw [List.mem_filterMap]
  constructor
  · rintro ⟨⟨p, i⟩, h1, h2⟩
    by_cases hf : frm ∈ p.nodes
    · simp [hf] at h2
      obtain ⟨_, _, h5⟩ := List.mem_zipIdx h1
      simp at h5
      have : i = g := by omega
      subst this
      rw [← h5]; exact hf
    · simp [hf] at h2
  · intro h
    refine ⟨(l[g], g), ?_, by simp [h]⟩
    rw [List.mem_zipIdx_iff_getElem?]
    simp [hg]

theorem mvs_get {frm tt : Int} {l : List Place} {ck : List Int} (hnd : ck.Nodup) (h0 : ∀ x ∈ ck, 0 ≤ x) {g : Nat} (hg : g < l.length) :
    (mvs frm tt l ck)[g]'(by rw [mvs_len]; exact hg) = if (g : Int) ∈ ck then mv1 frm tt l[g] else l[g] := by
  revert hnd h0
  refine snoc_ind (p := fun ck => ck.Nodup → (∀ (x : Int), x ∈ ck → 0 ≤ x) → (mvs frm tt l ck)[g]'(by rw [mvs_len]; exact hg) = if (g : Int) ∈ ck then mv1 frm tt l[g] else l[g]) ?_ ?_ ck
  · intro _ _; simp [mvs]
  · intro ck x ih hnd h0
    have hx := h0 x (by simp)
    rw [List.nodup_append] at hnd
    have ih := ih hnd.1 fun y hy => h0 y (by simp [hy])
    have hnx : x ∉ ck := fun h => hnd.2.2 x h x (by simp) rfl
    have : (mvs frm tt l (ck ++ [x]))[g]? = some (if (g : Int) ∈ ck ++ [x] then mv1 frm tt l[g] else l[g]) := by
      rw [mvs_snoc, List.getElem?_modify]
      rw [List.getElem?_eq_getElem (by rw [mvs_len]; exact hg), ih]
      by_cases e : (g : Int) = x
      · subst e
        simp [hnx]
      · have e2 : ¬ x.toNat = g := by omega
        simp [e, e2]
    exact (List.getElem?_eq_some_iff.1 this).2

theorem mvs_all (frm tt : Int) (l : List Place) : mvs frm tt l (grs frm l) = l.map (mv1 frm tt) := by
  refine List.ext_getElem (by rw [mvs_len, List.length_map]) fun g h1 h2 => ?_
  have hg : g < l.length := by rw [mvs_len] at h1; exact h1
  rw [mvs_get (grs_nodup frm l) (fun x hx => (grs_mem hx).1) hg, List.getElem_map]
  by_cases hm : (g : Int) ∈ grs frm l
  · rw [if_pos hm]
  · rw [if_neg hm, mv1, if_neg (fun h => hm ((mem_grs hg).2 h))]

/-- A group that is still to be turned. -/
theorem mvs_next {frm tt : Int} {l : List Place} {k : Nat} (hk : k < (grs frm l).length) :
    ∃ (g : Nat) (hg : g < l.length), (grs frm l)[k] = (g : Int) ∧ (mvs frm tt l ((grs frm l).take k))[g]'(by rw [mvs_len]; exact hg) = l[g] ∧ frm ∈ l[g].nodes ∧
      mvs frm tt l ((grs frm l).take (k + 1)) = (mvs frm tt l ((grs frm l).take k)).set g (mv1 frm tt l[g]) := by
  have hx := grs_mem (List.getElem_mem hk)
  obtain ⟨g, hgx⟩ : ∃ g : Nat, (grs frm l)[k] = (g : Int) := ⟨_, (Int.toNat_of_nonneg hx.1).symm⟩
  have hg : g < l.length := by omega
  have hnt : (g : Int) ∉ (grs frm l).take k := by rw [← hgx]; exact not_mem_take (grs_nodup frm l) hk
  have hget := mvs_get (frm := frm) (tt := tt) ((grs_nodup frm l).sublist (List.take_sublist k _)) (fun x hx => (grs_mem (List.mem_of_mem_take hx)).1) hg
  rw [if_neg hnt] at hget
  refine ⟨g, hg, hgx, hget, (mem_grs hg).1 (hgx ▸ List.getElem_mem hk), ?_⟩
  rw [take_snoc hk, mvs_snoc, hgx]
  simp only [Int.toNat_natCast]
  have hg' : g < (mvs frm tt l ((grs frm l).take k)).length := by rw [mvs_len]; exact hg
  refine List.ext_getElem (by simp) fun i h1 h2 => ?_
  rw [List.getElem_modify, List.getElem_set]
  by_cases e : g = i
  · subst e; rw [if_pos rfl, if_pos rfl, hget]
  · rw [if_neg e, if_neg e]

/-! ### Stripes left -/
theorem Rise.sub {a b : List Int} (h : Rise b) (hs : a.Sublist b) : Rise a := ⟨fun x hx => h.lo x (hs.subset hx), fun x hx => h.hi x (hs.subset hx), h.up.sublist hs⟩
theorem Rise.nodup {a : List Int} (h : Rise a) : a.Nodup := h.up.imp (fun h => by omega)
theorem lefts_rise {l : List Place} {frm : Int} {sl : List Int} (h : Rise sl) : Rise (lefts l frm sl) := h.sub (List.filter_sublist)

theorem idx_at {l : List Int} (h : l.Nodup) {j : Nat} (hj : j < l.length) : idx l[j] l 0 = j := by
  obtain ⟨i, h1, h2, h3⟩ := idx_mem (k := 0) (List.getElem_mem hj)
  have : i = j := by
    rcases Nat.lt_trichotomy i j with hl | hl | hl
    · exact absurd h3 (List.pairwise_iff_getElem.1 h i j h2 hj hl)
    · exact hl
    · exact absurd h3.symm (List.pairwise_iff_getElem.1 h j i hj h2 hl)
  subst this
  rw [h1]; omega
end Go.Proofs.Ytihfikepfhcboaa
