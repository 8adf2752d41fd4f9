/-
  Walks of TopMoved's small functions.
-/
import Derived.Test.YtihfikepfhcboaaProg
import Derived.Test.YtihfikepfhcboaaC
import Derived.WalkKit
import Derived.WalkSpells
import Derived.WalkLawsBesides
import Derived.Deep.QuietTactic
import Derived.BigQuiet
import Derived.KernelRfl
namespace Go.Proofs.Ytihfikepfhcboaa
open Go.RowKit

theorem info3 : (Try.prog.info? 3).map (fun i => (i.zero, i.size, i.bytes)) = some (some (.int .i64 0), 1, 8) := by kernel_rfl
theorem info5 : (Try.prog.info? 5).map (fun i => (i.zero, i.size, i.bytes)) = some (some (.int .u8 0), 1, 1) := by kernel_rfl

theorem ret_int {k : IntKind} {a b : Int} (h : a = b) : Ending.returned (.int k a) = .returned (.int k b) := by rw [h]
theorem ret_bool {a b : Bool} (h : a = b) : Ending.returned (.bool a) = .returned (.bool b) := by rw [h]

/-- A number's bytes, as 'low17' and 'bytes.Uint' have them. -/
def leb (n : Int) : List Int := if h : n < 128 then [n] else (128 + n % 128) :: leb (n / 128)
termination_by n.toNat
decreasing_by omega

theorem leb_small {n : Int} (h : n < 128) : leb n = [n] := by rw [leb, dif_pos h]
theorem leb_big {n : Int} (h : ¬ n < 128) : leb n = (128 + n % 128) :: leb (n / 128) := by rw [leb, dif_neg h]

theorem leb_length3 {n : Int} (h : n < 2097152) : (leb n).length ≤ 3 := by
  by_cases h1 : n < 128
  · rw [leb_small h1]; simp
  · rw [leb_big h1]
    by_cases h2 : n / 128 < 128
    · rw [leb_small h2]; simp
    · rw [leb_big h2, leb_small (by omega)]; simp

set_option maxHeartbeats 400000 in
theorem low17_any (m : Nat) : ∀ (n : Int) (w : World), 0 ≤ n → n < 2097152 → n.toNat < m → Calls Try.prog 23 #[.int .i64 n] w (RetRow 5 (.int .u8) (leb n) w) := by
  induction m with
  | zero => intro n w h0 hn hm; omega
  | succ m ih =>
    intro n w h0 hn hm
    have IH := hid ih
    clear ih
    by_cases h : n < 128
    · go_enter Try.func23, Try.ntmps23
      go_wp2
      go_ret
      refine ⟨_, rfl, ?_⟩
      rw [leb_small h]
      exact (Star.nil w).num1 5 .u8 n
    · have IH := IH.out (n / 128) 
      have hq : (n / 128).toNat < m := by omega
      have H1 := hid ((Star.nil w).num1 5 .u8 (128 + n % 128))
      have HE := hid (leb_big h)
      have HL := hid (leb_length3 (n := n / 128) (by omega))
      go_enter Try.func23, Try.ntmps23
      go_wp2_with fail
      refine (IH _ (by omega) (by omega) hq).mono ?_
      rintro e w1 ⟨v, rfl, h1⟩
      have h2 := (H1.out.frame h1).swap
      clear h1 H1
      go_wp2_with (at_builtin; refine appS rfl _ _ 22 _ 1 rfl Try.underlying22 info5 rfl (by decide) h2 rfl rfl h2.swap.row_rd ?_ ?_)
      · have := HL.out; simp; omega
      · intro v' w' h3 _ _
        go_wp2
        go_ret
        refine ⟨_, rfl, ?_⟩
        rw [HE.out]
        exact h3.swap.tail

set_option maxHeartbeats 1000000 in
set_option maxRecDepth 100000 in
/-- Sending a number: the slice that came in is one's own. -/
theorem uint_any (n : Int) (v : Value) (xs : List Int) (cs : List Ck) (w0 w : World) (B : Nat) (h0 : 0 ≤ n) (hn : n < 2097152) (hl : xs.length ≤ 1000000) (h : Star (Ck.row 5 (.int .u8) v xs :: cs) w0 B w) :
    Calls Try.prog 62 #[v, .int .u64 n] w fun en w' => ∃ v', en = .returned v' ∧ Star (Ck.row 5 (.int .u8) v' (xs ++ leb n) :: cs) w0 B w' := by
  have HN := hid (leb_length3 hn)
  have H := hid h
  clear h
  go_enter Try.func62, Try.ntmps62
  go_wp2
  go_loopw [0, 1] (fun vo vn wr => ∃ (q : Int) (ys : List Int), vn = .int .u64 q ∧ 0 ≤ q ∧ q < 2097152 ∧ Hid (ys ++ leb q = xs ++ leb n ∧ Star (Ck.row 5 (.int .u8) vo ys :: cs) w0 B wr)) (fun _ vn _ => (intOf vn).toNat)
  case atStart => exact ⟨n, xs, rfl, h0, hn, rfl, H.out⟩
  case round =>
    clear H h0 hn
    obtain ⟨q, ys, rfl, hq0, hq1, HQ⟩ := hrel
    have HL : Hid (ys.length ≤ 1000003) := by
      have h1 := congrArg List.length HQ.out.1
      have h2 := HN.out
      rw [List.length_append, List.length_append] at h1
      show _ ≤ _
      omega
    by_cases hb : q < 128
    · have HS := hid (HQ.out.2.free2 (c := Ck.inn (.int .u8) [q] [.int .u8 q]) fun F => inn_scalar _ _ [q] wr F)
      have HE := hid HQ.out.1
      clear HQ
      go_wp2_with (at_builtin; refine app1 rfl _ _ 22 _ 1 rfl Try.underlying22 info5 rfl (by decide) (by decide) HS.out rfl rfl ?_ ?_)
      · have := HL.out; omega
      · intro v' w' h3 _
        go_wp2
        go_ret
        refine ⟨_, rfl, ?_⟩
        rw [← HE.out, leb_small hb]
        exact h3
    · have HS := hid (HQ.out.2.free2 (c := Ck.inn (.int .u8) [q % 128 + 128] [.int .u8 (q % 128 + 128)]) fun F => inn_scalar _ _ [q % 128 + 128] wr F)
      have HE := hid HQ.out.1
      clear HQ
      go_wp2_with (at_builtin; refine app1 rfl _ _ 22 _ 1 rfl Try.underlying22 info5 rfl (by decide) (by decide) HS.out rfl rfl ?_ ?_)
      · have := HL.out; omega
      · intro v' w' h3 _
        have HS' : Hid ((ys ++ [q % 128 + 128]) ++ leb (q / 128) = xs ++ leb n ∧ Star (Ck.row 5 (.int .u8) v' (ys ++ [q % 128 + 128]) :: cs) w0 B w') :=
          ⟨by rw [← HE.out, leb_big (n := q) (by omega), List.append_assoc, Int.add_comm (q % 128)]; rfl, h3⟩
        clear h3 HE
        go_wp2
        go_roundw
        case rel => exact ⟨q / 128, _, rfl, by omega, by omega, HS'⟩
        case measure => simp [intOf]; omega
end Go.Proofs.Ytihfikepfhcboaa
