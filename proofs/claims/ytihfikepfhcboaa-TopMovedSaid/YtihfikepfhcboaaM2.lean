/-
  Walks of TopMoved's functions that only read.
-/
import Derived.Test.YtihfikepfhcboaaM1
namespace Go.Proofs.Ytihfikepfhcboaa
open Go.RowKit

/-- A result that needs no memory; nothing that was there has turned. -/
def Ret (v : Value) (w : World) : Ending → World → Prop := fun en w' => en = .returned v ∧ Below w.heap.size w w'

/-- A result that needs no memory; some orders may have been drawn. -/
def RetQ (v : Value) (w : World) : Ending → World → Prop := fun en w' => en = .returned v ∧ ∃ m, w' = w.drewN m

theorem RetQ.below {v : Value} {w w' : World} {en : Ending} (h : RetQ v w en w') : Ret v w en w' := by
  obtain ⟨rfl, m, rfl⟩ := h
  exact ⟨rfl, below_drewN (Below.refl _ _) m⟩

/-- The first index at which a number stands, counted from k; else -1. -/
def idx (n : Int) : List Int → Int → Int
  | [], _ => -1
  | x :: xs, k => if x = n then k else idx n xs (k + 1)

theorem drop_cons {α : Type} {l : List α} {k : Nat} (h : k < l.length) : l.drop k = l[k] :: l.drop (k + 1) := List.drop_eq_getElem_cons h

abbrev kInts : Kn (List Int) := .slice (.int .i64)
abbrev kBytes : Kn (List Int) := .slice (.int .u8)

theorem len63 {n : Nat} (h : n ≤ maxLen) : n ≤ 9223372036854775807 := by simp only [maxLen] at h; omega

set_option maxHeartbeats 400000 in
set_option maxRecDepth 100000 in
theorem index_any (l : List Int) (v : Value) (n : Int) (w : World) (h : kInts.rd w l [v]) :
    Calls Try.prog 122 #[v, .int .i64 n] w (Ret (.int .i64 (idx n l 0)) w) := by
  obtain ⟨A, c, rfl, h1, h2, _⟩ := rd_slice h
  have h2 := len63 h2
  have H := hid h
  clear h
  go_enter Try.func122, Try.ntmps122
  go_wp2
  go_loop [5, 8] (fun _ i => ∃ k : Nat, i = .int .i64 k ∧ k ≤ l.length ∧ Hid (idx n (l.drop k) k = idx n l 0)) (fun _ i => l.length - (intOf i).toNat)
  case atStart => exact ⟨0, rfl, by omega, rfl⟩
  case round =>
    obtain ⟨k, rfl, hk, HI⟩ := hrel
    by_cases hlt : k < l.length
    · obtain ⟨ad, rfl, hc⟩ := rd_get1 H.out k hlt
      by_cases hx : n = l[k]
      · have hb : (n == l[k]) = true := by simpa using hx
        have HF : Hid (idx n l 0 = (k : Int)) := by
          have := HI.out
          rw [drop_cons hlt, idx, if_pos hx.symm] at this
          exact this.symm
        have HX := hid hx
        clear hx
        go_wp2
        go_ret
        exact ⟨ret_int HF.out.symm, Below.refl _ _⟩
      · have hb : (n == l[k]) = false := by simpa using hx
        have HF : Hid (idx n (l.drop (k + 1)) ((k + 1 : Nat) : Int) = idx n l 0) := by
          have := HI.out
          rw [drop_cons hlt, idx, if_neg (fun e => hx e.symm)] at this
          exact this
        clear hx
        go_wp2
        go_round
        case rel => exact ⟨k + 1, by go_num, by omega, HF⟩
        case measure => simp [intOf]; omega
    · have HF : Hid (idx n l 0 = -1) := by
        have := HI.out
        rw [List.drop_of_length_le (by omega)] at this
        exact this.symm
      go_wp2
      go_ret
      exact ⟨ret_int HF.out.symm, Below.refl _ _⟩

set_option maxHeartbeats 400000 in
set_option maxRecDepth 100000 in
theorem numbers17_any (a b : List Int) (va vb : Value) (w : World) (ha : kInts.rd w a [va]) (hb : kInts.rd w b [vb]) :
    Calls Try.prog 29 #[va, vb] w (RetQ (.bool (decide (a = b))) w) := by
  obtain ⟨A, c, rfl, ha1, ha2, _⟩ := rd_slice ha
  obtain ⟨A', c', rfl, hb1, hb2, _⟩ := rd_slice hb
  have ha2 := len63 ha2
  have hb2 := len63 hb2
  have HA := hid ha
  have HB := hid hb
  clear ha hb
  go_enter Try.func29, Try.ntmps29
  go_wp2
  go_loopw [5] (fun i wr => ∃ k : Nat, i = .int .i64 k ∧ k ≤ a.length ∧ Hid (a.length = b.length → a.take k = b.take k) ∧ Hid (∃ m, wr = w.drewN m)) (fun i _ => a.length - (intOf i).toNat)
  case atStart => exact ⟨0, rfl, by omega, fun _ => rfl, 0, rfl⟩
  case round =>
    obtain ⟨k, rfl, hk, HI, HM⟩ := hrel
    have HBl : Hid (Below w.heap.size w wr) := by
      obtain ⟨m, rfl⟩ := HM.out
      exact below_drewN (Below.refl _ _) m
    have HM' : ∀ n, ∃ m, wr.drewN n = w.drewN m := fun n => by
      obtain ⟨m, rfl⟩ := HM.out
      exact ⟨m + n, World.drewN_drewN ..⟩
    have HM' := hid HM'
    by_cases hlt : k < a.length
    · by_cases hl : a.length = b.length
      · have hkb : k < b.length := by omega
        obtain ⟨ad, rfl, hc⟩ := rd_get1 (Kn.rd_below HA.out HBl.out) k hlt
        obtain ⟨ad', rfl, hc'⟩ := rd_get1 (Kn.rd_below HB.out HBl.out) k hkb
        have hb0 : ((a.length : Int) == (b.length : Int)) = true := by rw [beq_iff_eq, hl]
        by_cases hx : a[k] = b[k]
        · have hb : (a[k] != b[k]) = false := by simpa using hx
          have HF : Hid (a.length = b.length → a.take (k + 1) = b.take (k + 1)) := fun _ => by
            rw [List.take_succ_eq_append_getElem hlt, List.take_succ_eq_append_getElem hkb, HI.out hl, hx]
          have HX := hid hx
          have HLn := hid hl
          clear hx hl
          go_wp2
          go_quiet (fail)
          go_wp2
          go_roundw
          case rel => exact ⟨k + 1, by go_num, by omega, HF, HM'.out _⟩
          case measure => simp [intOf]; omega
        · have hb : (a[k] != b[k]) = true := by simpa using hx
          have HF : Hid (decide (a = b) = false) := decide_eq_false fun e => hx (by subst e; rfl)
          have HX := hid hx
          have HLn := hid hl
          clear hx hl
          go_wp2
          go_quiet (fail)
          go_wp2
          go_ret
          exact ⟨ret_bool HF.out.symm, HM'.out _⟩
      · have hb0 : ((a.length : Int) == (b.length : Int)) = false := by rw [beq_eq_false_iff_ne]; omega
        have HF : Hid (decide (a = b) = false) := decide_eq_false fun e => hl (by rw [e])
        clear hl
        go_wp2
        go_ret
        exact ⟨ret_bool HF.out.symm, HM.out⟩
    · have HF : Hid (((a.length : Int) == (b.length : Int)) = decide (a = b)) := by
        by_cases hl : a.length = b.length
        · have := HI.out hl
          rw [List.take_of_length_le (by omega), List.take_of_length_le (by omega)] at this
          show _ = _
          rw [decide_eq_true this, beq_iff_eq, hl]
        · show _ = _
          rw [decide_eq_false fun e => hl (by rw [e]), beq_eq_false_iff_ne]; omega
      go_wp2
      go_ret
      exact ⟨ret_bool HF.out, HM.out⟩

/-! ### structs -/
structure Place where
  ep : Int
  nodes : List Int
deriving DecidableEq, Inhabited
def kPlace : Kn Place := (Kn.pair (.int .i64) kInts).iso fun p => (p.ep, p.nodes)
theorem kPlace_open {w : World} {F : Fp} {p : Place} {cs : List Value} (h : kPlace.rep w F p cs) : ∃ v, cs = [.int .i64 p.ep, v] ∧ kInts.rep w F p.nodes [v] := by
  obtain ⟨c0, c1, rfl, h0, h1⟩ := h
  obtain ⟨A, c, he, h2⟩ := h1
  subst he
  exact ⟨_, by rw [show c0 = [.int .i64 p.ep] from h0]; rfl, A, c, rfl, h2⟩
theorem kPlace_mk {w : World} {F : Fp} {p : Place} {v : Value} (h : kInts.rep w F p.nodes [v]) : kPlace.rep w F p [.int .i64 p.ep, v] :=
  ⟨[.int .i64 p.ep], [v], rfl, rfl, h⟩

structure Moving where
  «from» : Int
  to : Int
  left : List Int
deriving DecidableEq, Inhabited
def kMoving : Kn Moving := (Kn.pair (.int .i64) (.pair (.int .i64) kInts)).iso fun m => (m.from, m.to, m.left)
theorem kMoving_open {w : World} {F : Fp} {m : Moving} {cs : List Value} (h : kMoving.rep w F m cs) : ∃ v, cs = [.int .i64 m.from, .int .i64 m.to, v] ∧ kInts.rep w F m.left [v] := by
  obtain ⟨c0, c1, rfl, h0, c2, c3, rfl, h1, h2⟩ := h
  obtain ⟨A, c, he, h2⟩ := h2
  dsimp only at h0 h1 he
  subst he
  exact ⟨_, by rw [show c0 = [.int .i64 m.from] from h0, show c2 = [.int .i64 m.to] from h1]; rfl, A, c, rfl, h2⟩
theorem kMoving_mk {w : World} {F : Fp} {m : Moving} {v : Value} (h : kInts.rep w F m.left [v]) : kMoving.rep w F m [.int .i64 m.from, .int .i64 m.to, v] :=
  ⟨[.int .i64 m.from], [.int .i64 m.to, v], rfl, rfl, [.int .i64 m.to], [v], rfl, rfl, h⟩

set_option maxHeartbeats 400000 in
set_option maxRecDepth 100000 in
theorem pIndex_any (p : Place) (cs : List Value) (n : Int) (w : World) (h : kPlace.rd w p cs) :
    Calls Try.prog 115 #[.agg cs.toArray, .int .i64 n] w (Ret (.int .i64 (idx n p.nodes 0)) w) := by
  obtain ⟨v, rfl, h1⟩ := kPlace_open h
  obtain ⟨A, c, rfl, _⟩ := rd_slice h1
  have H := hid h1
  clear h h1
  go_enter Try.func115, Try.ntmps115
  go_wp2_with (go_at_call 122; refine (index_any p.nodes _ n _ (Kn.rd_below H.out ((Below.refl _ _).alloc (Nat.le_refl _) _))).mono ?_; rintro e w' ⟨rfl, hb⟩)
  go_ret
  exact ⟨rfl, ((Below.refl _ _).alloc (Nat.le_refl _) _).trans (hb.mono (by simp))⟩

end Go.Proofs.Ytihfikepfhcboaa
