/-
  Walk: the bytes of a move.
-/
import Derived.Test.YtihfikepfhcboaaN2
import Derived.Deep.RegionWith
import Derived.Deep.RegionHeld3
import Derived.Deep.DeepCutAuto
namespace Go.Proofs.Ytihfikepfhcboaa
open Go.RowKit

def encDiffs : Int → List Int → List Int
  | _, [] => []
  | p, x :: xs => leb (x - p) ++ encDiffs x xs
def encMove (m : Moving) : List Int := leb m.from ++ leb m.to ++ leb m.left.length ++ encDiffs 0 m.left

theorem encDiffs_len : ∀ {l : List Int} {p : Int}, 0 ≤ p → (∀ x ∈ l, 0 ≤ x ∧ x ≤ 1000) → (encDiffs p l).length ≤ 3 * l.length
  | [], _, _, _ => by simp [encDiffs]
  | x :: xs, p, h0, h => by
    have h1 := encDiffs_len (l := xs) (p := x) (h x List.mem_cons_self).1 fun y hy => h y (List.mem_cons_of_mem _ hy)
    have h2 := leb_length3 (n := x - p) (by have := (h x List.mem_cons_self).2; omega)
    simp only [encDiffs, List.length_append, List.length_cons]
    omega

set_option maxHeartbeats 8000000 in
set_option maxRecDepth 100000 in
theorem mBytes_any (m : Moving) (cs : List Value) (w : World) (h : kMoving.rd w m cs) (hR : MRight m) :
    Calls Try.prog 107 #[.agg cs.toArray] w fun en w' => ∃ v, en = .returned (.tuple #[v, .int .i64 0]) ∧ Star [Ck.row 5 (.int .u8) v (encMove m)] w w.heap.size w' := by
  obtain ⟨v, rfl, h1⟩ := kMoving_open h
  obtain ⟨A, c, rfl, hc, hm, _⟩ := rd_slice h1
  have H := hid h
  have HI := hid h1
  have HR := hid hR
  obtain ⟨g1, g2, g3, g4, g5, g6, g7⟩ := hR
  have HRi := hid g7
  have S0 := hid ((Star.nil w).box [.int .i64 m.from, .int .i64 m.to, .slice A m.left.length c] 55)
  clear h h1 hm g5 g7
  go_enter Try.func107, Try.ntmps107
  go_wp2_with (go_at_call 109; refine (mRight_any m _ _ (Kn.rd_below H.out (below1 _ _)) HR.out).mono ?_; rintro e w1 ⟨rfl, hb⟩; have S1 := hid (S0.out.go hb); have f0 := S1.out.at 0 rfl 0 _ rfl; have f1 := S1.out.at 0 rfl 1 _ rfl; have f2 := S1.out.at 0 rfl 2 _ rfl; clear hb)
  go_cut [4] (fun v4 wc => Hid (Star [Ck.row 5 (.int .u8) v4 (leb m.from ++ leb m.to ++ leb m.left.length), Ck.blk w.heap.size [.int .i64 m.from, .int .i64 m.to, .slice A m.left.length c] 55] w w.heap.size wc))
  case first =>
    have hw1 : IntKind.u64.wrap m.from = m.from := u64_in (by omega) (by omega)
    have hw2 : IntKind.u64.wrap m.to = m.to := u64_in (by omega) (by omega)
    have hw3 : IntKind.u64.wrap (m.left.length : Int) = m.left.length := u64_in (by omega) (by omega)
    have L1 := hid (show (leb m.from).length ≤ 1000000 by have := leb_length3 (n := m.from) (by omega); omega)
    have L2 := hid (show (leb m.from ++ leb m.to).length ≤ 1000000 by have := leb_length3 (n := m.from) (by omega); have := leb_length3 (n := m.to) (by omega); rw [List.length_append]; omega)
    have HK : Hid (∀ (v : Value) (xs : List Int) (w' : World), Star [Ck.row 5 (.int .u8) v xs, Ck.blk w.heap.size [.int .i64 m.from, .int .i64 m.to, .slice A m.left.length c] 55] w w.heap.size w' → w'.cell? ⟨w.heap.size, 0, none⟩ = some (.int .i64 m.from) ∧ w'.cell? ⟨w.heap.size, 1, none⟩ = some (.int .i64 m.to) ∧ w'.cell? ⟨w.heap.size, 2, none⟩ = some (.slice A m.left.length c)) := fun v xs w' h => ⟨(h.at 1 rfl 0 _ rfl).1, (h.at 1 rfl 1 _ rfl).1, (h.at 1 rfl 2 _ rfl).1⟩
    go_region_held3 (fun w' => w'.cell? ⟨w.heap.size, 0, none⟩ = some (.int .i64 m.from) ∧ w'.cell? ⟨w.heap.size, 1, none⟩ = some (.int .i64 m.to) ∧ w'.cell? ⟨w.heap.size, 2, none⟩ = some (.slice A m.left.length c)) (first | exact HK.out _ _ _ S5.out | exact HK.out _ _ _ S4.out | exact HK.out _ _ _ S3.out | exact HK.out _ _ _ (S1.out.nilrow 5 (.int .u8)).drew) (first
      | (go_at_call 62; (with_reducible refine (uint_any m.from (.slice none 0 0) [] [Ck.blk w.heap.size [.int .i64 m.from, .int .i64 m.to, .slice A m.left.length c] 55] w _ w.heap.size (by omega) (by omega) (by simp) (S1.out.nilrow _ _).drew).mono ?_); rintro e w3 ⟨v2, rfl, h3⟩; rw [List.nil_append] at h3; have k1 := h3.at 1 rfl 1 _ rfl; have k2 := h3.at 1 rfl 2 _ rfl; have S3 := hid h3; clear h3)
      | (go_at_call 62; (with_reducible refine (uint_any m.to v2 (leb m.from) [Ck.blk w.heap.size [.int .i64 m.from, .int .i64 m.to, .slice A m.left.length c] 55] w _ w.heap.size (by omega) (by omega) L1.out S3.out).mono ?_); rintro e w4 ⟨v3, rfl, h4⟩; have k3 := h4.at 1 rfl 2 _ rfl; have S4 := hid h4; clear h4)
      | (go_at_call 62; (with_reducible refine (uint_any (m.left.length : Int) v3 (leb m.from ++ leb m.to) [Ck.blk w.heap.size [.int .i64 m.from, .int .i64 m.to, .slice A m.left.length c] 55] w _ w.heap.size (by omega) (by omega) L2.out S4.out).mono ?_); rintro e w5 ⟨v4, rfl, h5⟩; have S5 := hid h5; clear h5))
    all_goals
      go_wp2
      go_meet
      case rel => exact S5.out
  case rest =>
    have k0 := hcut.out.at 1 rfl 0 _ rfl
    have k1 := hcut.out.at 1 rfl 1 _ rfl
    have k2 := hcut.out.at 1 rfl 2 _ rfl
    have S2 := hid hcut.out
    clear hcut S1
    go_wp2
    go_loopw [4, 5, 7, 27] (fun v4 vl _ i wr => ∃ (k : Nat) (last : Int) (D : List Int), i = .int .i64 k ∧ k ≤ m.left.length ∧ vl = .int .i64 last ∧ 0 ≤ last ∧ last ≤ 1000 ∧ Hid ((∀ h : k < m.left.length, last ≤ m.left[k]) ∧ D ++ encDiffs last (m.left.drop k) = encDiffs 0 m.left) ∧
      Hid (Star [Ck.row 5 (.int .u8) v4 (leb m.from ++ leb m.to ++ leb m.left.length ++ D)] w w.heap.size wr)) (fun _ _ _ i _ => m.left.length - (intOf i).toNat)
    case atStart => exact ⟨0, 0, [], rfl, by omega, rfl, by omega, by omega, ⟨fun h => HRi.out.lo _ (List.getElem_mem h), rfl⟩, by show Star _ _ _ _; simpa using S2.out.perm [0] 2 (by decide) (by decide) (by simp)⟩
    case round =>
      clear k0 k1 k2 S2
      obtain ⟨k, last, D, rfl, hk, rfl, hl0, hl1, HD, HS⟩ := hrel
      by_cases hlt : k < m.left.length
      · obtain ⟨ad, rfl, hc⟩ := rd_get1 (Kn.rd_below HI.out HS.out.below) k hlt
        have x0 := HD.out.1 hlt
        have x1 := HRi.out.hi _ (List.getElem_mem hlt)
        have HDn : Hid ((∀ h : k + 1 < m.left.length, m.left[k] ≤ m.left[k + 1]) ∧ (D ++ leb (m.left[k] - last)) ++ encDiffs m.left[k] (m.left.drop (k + 1)) = encDiffs 0 m.left) := by
          refine ⟨fun h => Int.le_of_lt (HRi.out.lt h (Nat.lt_succ_self k)), ?_⟩
          have := HD.out.2
          rw [drop_cons hlt, encDiffs] at this
          rw [List.append_assoc]; exact this
        have HL : Hid ((leb m.from ++ leb m.to ++ leb m.left.length ++ D).length ≤ 1000000) := by
          have e1 := congrArg List.length HD.out.2
          have e2 := encDiffs_len (l := m.left) (p := 0) (by omega) fun x hx => ⟨HRi.out.lo x hx, HRi.out.hi x hx⟩
          have e3 := leb_length3 (n := m.from) (by omega)
          have e4 := leb_length3 (n := m.to) (by omega)
          have e5 := leb_length3 (n := m.left.length) (by omega)
          rw [List.length_append] at e1
          show _ ≤ _
          simp only [List.length_append]; omega
        have hw : IntKind.u64.wrap (m.left[k] - last) = m.left[k] - last := u64_in (by omega) (by omega)
        go_wp2_with (go_at_call 62; refine (uint_any _ _ _ _ _ _ _ (by omega) (by omega) HL.out HS.out).mono ?_; rintro e w3 ⟨v2, rfl, h3⟩; have S3 := hid h3; clear h3)
        go_roundw
        case rel => exact ⟨k + 1, m.left[k], _, by go_num, by omega, rfl, by omega, by omega, HDn, by rw [← List.append_assoc]; exact S3.out⟩
        case measure => simp [intOf]; omega
      · obtain rfl : k = m.left.length := by omega
        have HF : Hid (D = encDiffs 0 m.left) := by
          have := HD.out.2
          rw [List.drop_length, encDiffs, List.append_nil] at this
          exact this
        go_wp2
        go_ret2
        refine ⟨_, rfl, ?_⟩
        have := HS.out
        rw [HF.out] at this
        exact this
end Go.Proofs.Ytihfikepfhcboaa
