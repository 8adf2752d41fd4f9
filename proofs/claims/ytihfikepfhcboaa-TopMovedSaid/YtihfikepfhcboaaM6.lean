/-
  Walks: a function value over placements; are all right; has; places17.
-/
import Derived.Test.YtihfikepfhcboaaM5
namespace Go.Proofs.Ytihfikepfhcboaa
open Go.RowKit

/-- The first index at which p holds, counted from k; else -1. -/
def idxP {α : Type} (p : α → Bool) : List α → Int → Int
  | [], _ => -1
  | x :: xs, k => if p x then k else idxP p xs (k + 1)

theorem idxP_pos {α : Type} {p : α → Bool} : ∀ {l : List α} {k : Int}, l.any p = true → k ≤ idxP p l k
  | x :: xs, k, h => by
    rw [idxP]
    split
    · omega
    · rename_i hx
      have := idxP_pos (k := k + 1) (l := xs) (p := p) (by simpa [hx] using h)
      omega
theorem idxP_neg {α : Type} {p : α → Bool} : ∀ {l : List α} {k : Int}, l.any p = false → idxP p l k = -1
  | [], _, _ => rfl
  | x :: xs, k, h => by
    simp only [List.any_cons, Bool.or_eq_false_iff] at h
    rw [idxP, if_neg (by simp [h.1])]
    exact idxP_neg h.2
theorem idxP_ge {α : Type} {p : α → Bool} {l : List α} : decide (0 ≤ idxP p l 0) = l.any p := by
  by_cases h : l.any p = true
  · rw [h, decide_eq_true (idxP_pos h)]
  · rw [Bool.eq_false_iff.2 h, idxP_neg (Bool.eq_false_iff.2 h)]; rfl

/-- What a function value tells of a placement, in each later world. -/
def Tells (f : FuncId) (cap : Array Value) (p : Place → Bool) (l : List Place) (w : World) : Prop :=
  ∀ (w' : World) (x : Place) (cs : List Value), Below w.heap.size w w' → x ∈ l → kPlace.rd w' x cs → Calls Try.prog f (#[.agg cs.toArray] ++ cap) w' (Ret (.bool (p x)) w')

/-- A function with a text: a call enters it. -/
def Enters (f : FuncId) : Prop := ∀ (args : Array Value) (w : World), (callFunc f args).run Try.prog w = .ok (.enter f args) w
theorem enters_of {f : FuncId} {fn : Func} {c : Code} (hf : Try.prog.funcs[f]? = some fn) (hn : (fn.name == "runtime.NumGoroutine") = false) (hb : fn.body = some c) : Enters f := fun args w => by
  have h1 : fn.name ≠ "runtime.NumGoroutine" := by simpa using hn
  simp [callFunc, hf, h1, hb]

set_option maxHeartbeats 400000 in
set_option maxRecDepth 100000 in
theorem indexFunc_any (l : List Place) (v : Value) (f : FuncId) (cap : Array Value) (p : Place → Bool) (w : World) (h : kPlaces.rd w l [v]) (hf : Tells f cap p l w) (hen : Enters f) :
    Calls Try.prog 218 #[v, .func (.func f) #[] cap] w (Ret (.int .i64 (idxP p l 0)) w) := by
  obtain ⟨A, c, rfl, h1, h2, _⟩ := rd_slice h
  have h2 := len63 h2
  have H := hid h
  have HF := hid hf
  clear h hf
  unfold Enters at hen
  go_enter Try.func218, Try.ntmps218
  go_wp2
  go_loopw [5, 8] (fun _ i wr => ∃ k : Nat, i = .int .i64 k ∧ k ≤ l.length ∧ Hid (idxP p (l.drop k) k = idxP p l 0) ∧ Hid (Below w.heap.size w wr)) (fun _ i _ => l.length - (intOf i).toNat)
  case atStart => exact ⟨0, rfl, by omega, rfl, Below.refl _ _⟩
  case round =>
    obtain ⟨k, rfl, hk, HI, HB⟩ := hrel
    by_cases hlt : k < l.length
    · obtain ⟨ad, cl, rfl, g1, g2, g3⟩ := rd_getS (Kn.rd_below H.out HB.out) 2 rfl k hlt
      obtain ⟨u, rfl, g4⟩ := kPlace_open g1
      obtain ⟨A2, c2, rfl, _⟩ := rd_slice g4
      have e0 := g2 _ rfl
      have e1 := g3 0 _ rfl
      have HC := hid (HF.out _ _ _ HB.out (List.getElem_mem hlt) g1)
      clear g1 g2 g3 g4
      go_wp2_with fail
      refine HC.out.mono ?_
      rintro e w' ⟨rfl, hb⟩
      have HB' := hid (bup HB.out hb)
      clear hb e0 e1
      by_cases hx : p l[k] = true
      · have HE : Hid (idxP p l 0 = (k : Int)) := by
          have := HI.out
          rw [drop_cons hlt, idxP, if_pos hx] at this
          exact this.symm
        rw [hx]
        clear hx
        go_wp2
        go_ret
        exact ⟨ret_int HE.out.symm, HB'.out⟩
      · have HE : Hid (idxP p (l.drop (k + 1)) ((k + 1 : Nat) : Int) = idxP p l 0) := by
          have := HI.out
          rw [drop_cons hlt, idxP, if_neg hx] at this
          exact this
        rw [Bool.eq_false_iff.2 hx]
        clear hx
        go_wp2
        go_roundw
        case rel => exact ⟨k + 1, by go_num, by omega, HE, HB'⟩
        case measure => simp [intOf]; omega
    · have HE : Hid (idxP p l 0 = -1) := by
        have := HI.out
        rw [List.drop_of_length_le (by omega)] at this
        exact this.symm
      go_wp2
      go_ret
      exact ⟨ret_int HE.out.symm, HB.out⟩

set_option maxHeartbeats 400000 in
set_option maxRecDepth 100000 in
theorem containsFunc_any (l : List Place) (v : Value) (f : FuncId) (cap : Array Value) (p : Place → Bool) (w : World) (h : kPlaces.rd w l [v]) (hf : Tells f cap p l w) (hen : Enters f) :
    Calls Try.prog 119 #[v, .func (.func f) #[] cap] w (Ret (.bool (l.any p)) w) := by
  have H := hid h
  have HF := hid hf
  have HE := hid (idxP_ge (p := p) (l := l))
  clear h hf
  go_enter Try.func119, Try.ntmps119
  go_wp2_with (go_at_call 218; refine (indexFunc_any l _ f cap p _ H.out HF.out hen).mono ?_; rintro e w' ⟨rfl, hb⟩)
  go_ret
  exact ⟨ret_bool HE.out, hb⟩

set_option maxHeartbeats 400000 in
set_option maxRecDepth 100000 in
theorem wrong_any (x : Place) (cs : List Value) (w : World) (h : kPlace.rd w x cs) (hR : PRight x) : Calls Try.prog 216 #[.agg cs.toArray] w (Ret (.bool false) w) := by
  obtain ⟨u, rfl, g4⟩ := kPlace_open h
  obtain ⟨A2, c2, rfl, _⟩ := rd_slice g4
  have H := hid h
  clear h g4
  go_enter Try.func216, Try.ntmps216
  go_wp2_with (go_at_call 217; refine (pRight_any x _ _ (Kn.rd_below H.out (below1 _ _)) hR).mono ?_; rintro e w' ⟨rfl, hb⟩)
  go_ret
  exact ⟨rfl, bup (below1 _ _) hb⟩

set_option maxHeartbeats 400000 in
set_option maxRecDepth 100000 in
theorem all_any (l : List Place) (v : Value) (w : World) (h : kPlaces.rd w l [v]) (h0 : 1 ≤ l.length) (h1 : l.length ≤ 1000) (hR : ∀ p ∈ l, PRight p) :
    Calls Try.prog 118 #[v] w (Ret (.bool true) w) := by
  obtain ⟨A, c, rfl, h2, _⟩ := rd_slice h
  have H := hid h
  have HR := hid hR
  clear h hR
  have HF : Hid (Tells 216 #[] (fun _ => false) l w) := fun w' x cs hb hx hr => wrong_any x cs w' hr (HR.out x hx)
  have HE : Hid (l.any (fun _ => false) = false) := by show _ = _; simp
  go_enter Try.func118, Try.ntmps118
  go_wp2_with (go_at_call 119; refine (containsFunc_any l _ 216 #[] _ _ H.out HF.out (enters_of Try.func216 (by kernel_rfl) rfl)).mono ?_; rintro e w' ⟨rfl, hb⟩; rw [HE.out])
  go_ret
  exact ⟨rfl, hb⟩

end Go.Proofs.Ytihfikepfhcboaa
