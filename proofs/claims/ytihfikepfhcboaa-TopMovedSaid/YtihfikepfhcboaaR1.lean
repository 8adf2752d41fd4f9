/-
  A region that draws its order: what is loaded ahead of the region's own stores may be taken first. (The kit's law of held cells, turned: behind the first store, number t, which waits for the load, nothing more is asked of the cells.) No program in sight.
-/
import Derived.Deep.RegionHeld3
import Derived.StillTail
namespace Go.Proofs.Ytihfikepfhcboaa
open Go

section
variable {P : Program} {ops : Array Oper} {Q : Exit → Act → World → Prop} {md : Region.Mode} {S : World → Prop} {t : Nat}

/-- Number t has come up, or S holds. -/
def Upto (S : World → Prop) (t : Nat) (listed : Array Bool) (w : World) : Prop := listed.getD t false = true ∨ S w

def wpAnyG (P : Program) (md : Region.Mode) (ops : Array Oper) (Q : Exit → Act → World → Prop) (S : World → Prop) (t : Nat) : Nat → Array Bool → Act → World → Prop
  | 0, listed, a, w => Region.ready md ops listed = [] ∧ Q .normal a w
  | fuel + 1, listed, a, w =>
    (Region.ready md ops listed = [] → Q .normal a w) ∧
    ∀ i ∈ Region.ready md ops listed, wpOp P ops Q i (fun a' w' => Upto S t (listed.setIfInBounds i true) w' ∧ wpAnyG P md ops Q S t fuel (listed.setIfInBounds i true) a' w') a w

theorem wpAny_of_G : ∀ (fuel : Nat) (listed : Array Bool) (a : Act) (w : World), wpAnyG P md ops Q S t fuel listed a w → wpAny P md ops Q fuel listed a w
  | 0, _, _, _, h => h
  | fuel + 1, _, _, _, h => ⟨h.1, fun i hi => wpOp_mono (fun a' w' h' => wpAny_of_G fuel _ a' w' h'.2) (h.2 i hi)⟩

theorem Upto.of_set {listed : Array Bool} {i : Nat} {w : World} (hit : i ≠ t) (h : Upto S t (listed.setIfInBounds i true) w) : Upto S t listed w := by
  rcases h with h | h
  · exact .inl (by rwa [getD_set_ne false hit] at h)
  · exact .inr h

/-- One that yields in whatever world, or, where t waits for it, in every world that meets S. -/
theorem wpAnyG_first {S' : World → Prop} {i : Nat} {oi : Oper} {v : Value} (hi : ops[i]? = some oi) (hsel : ∀ (j : Nat) (o : Oper) cs b, ops[j]? = some o → o.op ≠ .select cs b)
    (hQ : ∀ c a w, Q (.panic c) (a.put oi.dst v) w → Q (.panic c) a w) (hit : i ≠ t) (hk : (∀ w, S' w) ∨ (S' = S ∧ Region.waitsFor md ops t i = true)) :
    ∀ (fuel : Nat) (listed : Array Bool) (a : Act) (w : World),
      (∀ j oj, ops[j]? = some oj → j ≠ i → listed.getD j true = false → (∀ e ∈ oj.after, Region.binds md e = true → e.on ≠ i) → oi.apart ops oj = true) →
      i ∈ Region.ready md ops listed → YieldsIf P ops S' oi v a → Upto S t listed w → ((∀ w, S' w) ∨ listed.getD t false = false) →
      wpAnyG P md ops Q S t fuel (listed.setIfInBounds i true) (a.put oi.dst v) w → wpAnyG P md ops Q S t (fuel + 1) listed a w := by
  have hS : ∀ {listed : Array Bool} {w : World}, Upto S t listed w → ((∀ w, S' w) ∨ listed.getD t false = false) → S' w := fun {listed w} hu hl => by
    rcases hk with hk | ⟨rfl, _⟩
    · exact hk w
    · rcases hl with hl | hl
      · exact hl w
      · rcases hu with hu | hu
        · rw [hl] at hu; cases hu
        · exact hu
  intro fuel
  induction fuel with
  | zero =>
    intro listed a w _ hr hy hu hl H
    refine ⟨fun h => (by rw [h] at hr; cases hr), fun j hj => ?_⟩
    by_cases hji : j = i
    · subst hji
      refine hy.wpOp hi (hS hu hl) ⟨?_, H⟩
      rcases hu with hu | hu
      · exact .inl (getD_set_true hu)
      · exact .inr hu
    · have := ready_mono hj hji
      rw [H.1] at this
      cases this
  | succ fuel ih =>
    intro listed a w hfree hr hy hu hl H
    refine ⟨fun h => (by rw [h] at hr; cases hr), fun j hj => ?_⟩
    by_cases hji : j = i
    · subst hji
      refine hy.wpOp hi (hS hu hl) ⟨?_, H⟩
      rcases hu with hu | hu
      · exact .inl (getD_set_true hu)
      · exact .inr hu
    · have h1 := H.2 j (ready_mono hj hji)
      obtain ⟨hjun, oj, hoj, hall⟩ := mem_ready.1 hj
      have h0 := getD_both (mem_ready.1 hr).1
      have hnot : ∀ e ∈ oj.after, Region.binds md e = true → e.on ≠ i := fun e he hb heq => by
        have h1 := hall e he hb
        rw [heq, h0] at h1; cases h1
      have h2 := wpOp_putIf hoj (hfree j oj hoj hji hjun hnot) (fun cs b => hsel i oi cs b hi) (fun cs b => hsel j oj cs b hoj) hQ hy h1
      have hfree' : ∀ k ok, ops[k]? = some ok → k ≠ i → (listed.setIfInBounds j true).getD k true = false →
          (∀ e ∈ ok.after, Region.binds md e = true → e.on ≠ i) → oi.apart ops ok = true := fun k ok hk hki hun hno => by
        refine hfree k ok hk hki ?_ hno
        by_cases hjk : j = k
        · subst hjk; exact hjun
        · rw [getD_set_ne true hjk] at hun; exact hun
      have hl' : (∀ w, S' w) ∨ (listed.setIfInBounds j true).getD t false = false := by
        rcases hl with hl | hl
        · exact .inl hl
        · rcases hk with hk | ⟨_, hk⟩
          · exact .inl hk
          · refine .inr ?_
            by_cases hjt : j = t
            · subst hjt
              obtain ⟨o', ho', e, he, hb, hon⟩ := Region.waitsFor_spec hk
              have : o' = oj := Option.some.inj (ho'.symm.trans hoj)
              subst this
              exact absurd hon (hnot e he hb)
            · rw [getD_set_ne false hjt]; exact hl
      refine wpOp_mono (fun a' w' h3 => ?_) h2
      have hu' : Upto S t (listed.setIfInBounds j true) w' := Upto.of_set hit (by rw [Array.setIfInBounds_comm _ _ hji]; exact h3.2.1)
      refine ⟨hu', ih (listed.setIfInBounds j true) a' w' hfree' (ready_mono hr (Ne.symm hji)) h3.1 hu' hl' ?_⟩
      rw [Array.setIfInBounds_comm _ _ hji]
      exact h3.2.2

/-- One that yields in whatever world. -/
theorem wpAnyG_take0 {i : Nat} {oi : Oper} {v : Value} {fuel : Nat} {listed : Array Bool} {a : Act} {w : World} (hi : ops[i]? = some oi)
    (hs : Region.noSelect ops = true) (hf : Region.free md ops listed i = true) (hr : (Region.ready md ops listed).contains i = true)
    (hQ : ∀ c a w, Q (.panic c) (a.put oi.dst v) w → Q (.panic c) a w) (hit : i ≠ t) (hu : Upto S t listed w) (hy : YieldsIf P ops (fun _ => True) oi v a)
    (h : wpAnyG P md ops Q S t fuel (listed.setIfInBounds i true) (a.put oi.dst v) w) : wpAnyG P md ops Q S t (fuel + 1) listed a w :=
  wpAnyG_first hi (Region.noSelect_spec hs) hQ hit (.inl fun _ => trivial) fuel listed a w (Region.free_spec hi hf) (by simpa using hr) hy hu (.inl fun _ => trivial) h

/-- A load: t waits for it. -/
theorem wpAnyG_take {i : Nat} {oi : Oper} {v : Value} {fuel : Nat} {listed : Array Bool} {a : Act} {w : World} (hi : ops[i]? = some oi)
    (hs : Region.noSelect ops = true) (hf : Region.free md ops listed i = true) (hr : (Region.ready md ops listed).contains i = true)
    (hQ : ∀ c a w, Q (.panic c) (a.put oi.dst v) w → Q (.panic c) a w) (hit : i ≠ t) (hw : Region.waitsFor md ops t i = true) (ht : listed.getD t false = false) (hS : S w) (hy : YieldsIf P ops S oi v a)
    (h : wpAnyG P md ops Q S t fuel (listed.setIfInBounds i true) (a.put oi.dst v) w) : wpAnyG P md ops Q S t (fuel + 1) listed a w :=
  wpAnyG_first hi (Region.noSelect_spec hs) hQ hit (.inr ⟨rfl, hw⟩) fuel listed a w (Region.free_spec hi hf) (by simpa using hr) hy (.inr hS) (.inr ht) h

theorem wpAnyG_done {listed : Array Bool} {a : Act} {w : World} (hr : Region.ready md ops listed = []) (h : Q .normal a w) : ∀ fuel, wpAnyG P md ops Q S t fuel listed a w
  | 0 => ⟨hr, h⟩
  | _ + 1 => ⟨fun _ => h, by rw [hr]; simp⟩

def AllG (P : Program) (md : Region.Mode) (ops : Array Oper) (Q : Exit → Act → World → Prop) (S : World → Prop) (t : Nat) (fuel : Nat) (listed : Array Bool) (a : Act) (w : World) (rs : List Nat) : Prop :=
  ∀ i ∈ rs, wpOp P ops Q i (fun a' w' => Upto S t (listed.setIfInBounds i true) w' ∧ wpAnyG P md ops Q S t fuel (listed.setIfInBounds i true) a' w') a w
theorem AllG.nil {fuel : Nat} {listed : Array Bool} {a : Act} {w : World} : AllG P md ops Q S t fuel listed a w [] := fun _ h => by cases h
theorem AllG.cons {fuel : Nat} {listed : Array Bool} {a : Act} {w : World} {i : Nat} {o : Oper} {rs : List Nat} (ho : ops[i]? = some o)
    (h : ∀ K' : Act → World → Prop, Shut (∀ a w, Upto S t (listed.setIfInBounds i true) w → (wpAnyG P md ops Q S t fuel (listed.setIfInBounds i true) a w) → K' a w) → if Region.wanted o (yielded ops a.tmps) = true then Oper.wp P o a w K' Q else K' (a.put o.dst undef) w)
    (hs : AllG P md ops Q S t fuel listed a w rs) : AllG P md ops Q S t fuel listed a w (i :: rs) := fun j hj => by
  rcases List.mem_cons.1 hj with rfl | hj
  · exact wpOp_step ho (fun K' hK => h K' (fun a w hS hW => hK a w ⟨hS, hW⟩))
  · exact hs j hj
theorem wpAnyG_ready {rs : List Nat} {fuel : Nat} {listed : Array Bool} {a : Act} {w : World} (hr : Region.ready md ops listed = rs) (hne : rs ≠ [])
    (h : AllG P md ops Q S t fuel listed a w rs) : wpAnyG P md ops Q S t (fuel + 1) listed a w := ⟨fun h0 => absurd (hr ▸ h0) hne, hr ▸ h⟩

/-- The beginning. -/
theorem wp_region_G {id : Nat} {a : Act} {w : World} (S : World → Prop) (t : Nat) (hm : P.follows .mixedOrders = true)
    (h : wpAnyG P .any ops Q S t ops.size (Array.replicate ops.size false) a w.drew) : (Code.region id ops true).wp P Q a w :=
  wp_region_any hm (wpAny_of_G _ _ _ _ h)
end
end Go.Proofs.Ytihfikepfhcboaa
