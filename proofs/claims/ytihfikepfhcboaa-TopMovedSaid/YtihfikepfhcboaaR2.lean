/-
  A block of a function, by its number: so that its walk may be a theorem of its own. No program in sight.
-/
import Derived.Deep.CutBlock
import Derived.Deep.DeepCutAuto
namespace Go.Proofs.Ytihfikepfhcboaa
open Go

/-- The block of that number; skip: there is none. -/
def blkOf (n : Nat) : Code → Code
  | .block m b => bif m == n then .block m b else blkOf n b
  | .seq a b => match blkOf n a with
    | .skip => blkOf n b
    | c => c
  | .cond _ a b => match blkOf n a with
    | .skip => blkOf n b
    | c => c
  | .loop b => blkOf n b
  | .scope b => blkOf n b
  | _ => .skip

def bodyOf (f : Func) : Code := match f.body with
  | some c => c
  | none => .skip

/-- The code ends by itself, in such a state. -/
def Ends (R : Act → World → Prop) : Exit → Act → World → Prop
  | .normal, a, w => R a w
  | _, _, _ => False
theorem Ends.mk {R : Act → World → Prop} {a : Act} {w : World} (h : R a w) : Ends R .normal a w := h
theorem Ends.out {R : Act → World → Prop} {e : Exit} {a : Act} {w : World} (h : Ends R e a w) : e = .normal ∧ R a w := by
  cases e <;> first | exact ⟨rfl, h⟩ | exact (h : False).elim
theorem wp_ends {P : Program} {c : Code} {K : Act → World → Prop} {Q : Exit → Act → World → Prop} {a : Act} {w : World} (h : c.wp P (Ends K) a w) : c.wp P (Exit.then K Q) a w :=
  wp_mono h fun e a w h => by obtain ⟨rfl, h⟩ := h.out; exact h
end Go.Proofs.Ytihfikepfhcboaa
