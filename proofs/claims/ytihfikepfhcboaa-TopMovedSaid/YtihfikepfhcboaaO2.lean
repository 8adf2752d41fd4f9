/-
  A chunk: a map of one's own from ints to ints, told by a function.
-/
import Derived.Test.YtihfikepfhcboaaO1
import Derived.Maps.OwnOps
import Derived.Maps.Views
import Derived.Maps.Ext
namespace Go.Proofs.Ytihfikepfhcboaa
open Go.RowKit Go.Maps

abbrev lit64 (x : Int) : DataW Unit := .lit (.int .i64 x)

theorem wf64 {x : Int} (h0 : -9223372036854775808 ≤ x) (h1 : x ≤ 9223372036854775807) : (Lit.int .i64 x).wf = true := by
  simp only [Lit.wf, Bool.and_eq_true, decide_eq_true_eq]
  exact ⟨h0, h1⟩

/-- The block is a map from ints to ints of the call's own, with n entries at most; what stands at x is f x. -/
def Ck.cnt (b n : Nat) (f : Int → Int) : Ck where
  holds := fun w F => F b ∧ ∃ D : DataW Unit, w.ownsMap Try.prog 3 (plainElem Try.prog 3) b n D ∧ ∀ x, D.atKey (.int .i64 x) (lit64 0) = lit64 (f x)
  mono := fun hF h => ⟨hF _ h.1, h.2⟩
  move := fun hS h => ⟨h.1, by
    obtain ⟨D, h1, h2⟩ := h.2
    have hl := h1.lt
    obtain ⟨es, clock, hb, k2, k3, k4⟩ := h1
    exact ⟨D, ⟨es, clock, (hS b h.1 hl).trans hb, k2, k3, k4⟩, h2⟩⟩
  bound := fun h => ⟨⟨h.1, by obtain ⟨D, h1, _⟩ := h.2; exact h1.lt⟩, h.2⟩

theorem Star.cnt_new {cs : List Ck} {w0 w : World} {B : Nat} (h : Star cs w0 B w) : Star (Ck.cnt w.heap.size 0 (fun _ => 0) :: cs) w0 B (w.alloc (.map #[] 0)) :=
  h.fresh ((Below.refl _ _).alloc (Nat.le_refl _) _) ⟨Nat.le_refl _, .map [], World.ownsMap_made w _ _ _, fun _ => rfl⟩

theorem Star.cnt_put {cs : List Ck} {w0 w w1 : World} {B b n : Nat} {f : Int → Int} {D : DataW Unit} {x y : Int} (h : Star (Ck.cnt b n f :: cs) w0 B w)
    (hown : w.ownsMap Try.prog 3 (plainElem Try.prog 3) b n D) (hat : ∀ x, D.atKey (.int .i64 x) (lit64 0) = lit64 (f x))
    (hown2 : w1.ownsMap Try.prog 3 (plainElem Try.prog 3) b (n + 1) (D.put (.int .i64 x) (lit64 y))) (hg : w.grownBy w1 (some b)) :
    Star (Ck.cnt b (n + 1) (fun z => if z = x then y else f z) :: cs) w0 B w1 :=
  h.turn fun F hF _ => ⟨⟨hg.os, hg.tape, hg.output, hg.size⟩, fun k hk hl => hg.block k hl (fun e => hk (by cases e; exact hF.1)), .inl hF.1, _, hown2, fun z => by
    have hM : IsMap D := by obtain ⟨_, _, _, _, _, rfl⟩ := hown; exact ⟨_, rfl⟩
    show _ = lit64 (if z = x then y else f z)
    by_cases e : z = x
    · subst e
      rw [if_pos rfl]
      exact atKey_put_same hM (by simp [WideAt.IsKeyLit]) _ _
    · rw [if_neg e, atKey_put_other (by simpa using e)]
      exact hat z⟩

theorem law3 : Keyed Try.prog 3 := int_keyed Try.underlying3
theorem zero3 (w : World) : (zeroValue 3).run Try.prog w = .ok (.int .i64 0) w := by kernel_rfl
end Go.Proofs.Ytihfikepfhcboaa
