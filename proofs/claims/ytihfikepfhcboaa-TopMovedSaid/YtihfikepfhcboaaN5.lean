/-
  Walk: a move of bytes.
-/
import Derived.Test.YtihfikepfhcboaaN3
import Derived.Test.YtihfikepfhcboaaN4
namespace Go.Proofs.Ytihfikepfhcboaa
open Go.RowKit

set_option maxHeartbeats 8000000 in
set_option maxRecDepth 100000 in
theorem mRead_any (m : Moving) (l : List Int) (v : Value) (w : World) (h : kBytes.rd w l [v]) (hl : l.length ≤ 1000000) (he : l = encMove m) (hR : MRight m) :
    Calls Try.prog 108 #[v] w fun en w' => ∃ v, en = .returned (.tuple #[.agg #[.int .i64 m.from, .int .i64 m.to, v], .int .i64 0]) ∧ Star [Ck.row 3 (.int .i64) v m.left] w w.heap.size w' := by
  obtain ⟨A, c, rfl, h2, _⟩ := rd_slice h
  have H := hid h
  have HR := hid hR
  obtain ⟨g1, g2, g3, g4, g5, g6, g7⟩ := hR
  have HRi := hid g7
  have S0 := hid (((((Star.nil w).box [.slice A l.length c] 22).box2 (w.heap.size + 1) (by simp) [.int .i64 0, .int .i64 0, .slice none 0 0] 55).box2 (w.heap.size + 1 + 1) (by simp) [.int .i64 0] 3).box2 (w.heap.size + 1 + 1 + 1) (by simp) [.bool false] 4)
  have HD : Hid (l.drop 0 = leb m.from ++ (leb m.to ++ (leb m.left.length ++ encDiffs 0 m.left))) := by show _ = _; rw [he]; simp [encMove]
  have D1 := hid (drop_more (Nat.zero_le _) HD.out)
  have D2 := hid (drop_more D1.out.2 D1.out.1)
  have D3 := hid (drop_more D2.out.2 D2.out.1)
  clear h he g5 g7
  go_enter Try.func108, Try.ntmps108
  go_wp2_with fail
  refine (mnext_any l _ (.slice A l.length c) 0 m.from 256 w.heap.size (w.heap.size + 1 + 1) (w.heap.size + 1 + 1 + 1) _ w _ w.heap.size (S0.out.perm [1, 0, 3, 2] 4 (by decide) (by decide) (by simp)) (Kn.rd_below H.out S0.out.below) hl (by omega) (by omega) (by omega) (by omega) HD.out).mono ?_
  rintro e w1 ⟨rfl, h3⟩
  rw [← Int.natCast_add] at h3
  have S1 := hid h3
  clear h3 HD S0
  go_wp2_with fail
  refine (mnext_any l _ (.slice A l.length c) (0 + (leb m.from).length) m.to 256 w.heap.size (w.heap.size + 1 + 1) (w.heap.size + 1 + 1 + 1) _ w _ w.heap.size S1.out (Kn.rd_below H.out S1.out.below) hl (by omega) (by omega) (by omega) (by omega) D1.out.1).mono ?_
  rintro e w2 ⟨rfl, h3⟩
  rw [← Int.natCast_add] at h3
  have S2 := hid (h3.box [.int .i64 m.from, .int .i64 m.to, .slice none 0 0] 55)
  clear h3 S1
  go_wp2_with fail
  refine (mnext_any l _ (.slice A l.length c) (0 + (leb m.from).length + (leb m.to).length) m.left.length 10000 w.heap.size (w.heap.size + 1 + 1) (w.heap.size + 1 + 1 + 1) _ w _ w.heap.size (S2.out.perm [1, 2, 3, 4, 0] 5 (by decide) (by decide) (by simp)) (Kn.rd_below H.out S2.out.below) hl (by omega) (by omega) (by omega) (by omega) D2.out.1).mono ?_
  rintro e w3 ⟨rfl, h3⟩
  rw [← Int.natCast_add] at h3
  have S3 := hid h3
  clear h3 S2
  go_wp2
  go_loopw [8, 17] (fun vl i wr => ∃ (k at_ : Nat) (last : Int) (vN : Value), i = .int .i64 k ∧ k ≤ m.left.length ∧ vl = .int .i64 last ∧ 0 ≤ last ∧ last ≤ 1000 ∧ Hid ((∀ h : k < m.left.length, last ≤ m.left[k]) ∧ at_ ≤ l.length ∧ l.drop at_ = encDiffs last (m.left.drop k)) ∧
    Hid (Star [Ck.blk (w.heap.size + 1 + 1) [.int .i64 at_] 3, Ck.blk (w.heap.size + 1 + 1 + 1) [.bool false] 4, Ck.blk w.heap.size [.slice A l.length c] 22, Ck.blk (w.heap.size + 1) [.int .i64 0, .int .i64 0, .slice none 0 0] 55, Ck.blk w2.heap.size [.int .i64 m.from, .int .i64 m.to, vN] 55, Ck.row 3 (.int .i64) vN (m.left.take k)] w w.heap.size wr)) (fun _ i _ => m.left.length - (intOf i).toNat)
  case atStart => exact ⟨0, _, 0, _, rfl, by omega, rfl, by omega, by omega, ⟨fun h => HRi.out.lo _ (List.getElem_mem h), D3.out.2, D3.out.1⟩, (S3.out.nilrow 3 (.int .i64)).perm [1, 2, 3, 4, 5, 0] 6 (by decide) (by decide) (by simp)⟩
  case round =>
    clear S3 D1 D2 D3
    obtain ⟨k, at_, last, vN, rfl, hk, rfl, hl0, hl1, HD, HS⟩ := hrel
    by_cases hlt : k < m.left.length
    · obtain ⟨d, hd⟩ : ∃ d, d = m.left[k] - last := ⟨_, rfl⟩
      have x0 : 0 ≤ d := by have := HD.out.1 hlt; omega
      have x1 : last + d ≤ 1000 := by have := HRi.out.hi _ (List.getElem_mem hlt); omega
      have HDk : Hid (m.left[k] = last + d) := by show _ = _; omega
      have D4 : Hid (l.drop at_ = leb d ++ encDiffs (last + d) (m.left.drop (k + 1))) := by
        show _ = _
        rw [HD.out.2.2, drop_cons hlt, encDiffs, ← hd, HDk.out]
      have D5 := hid (drop_more HD.out.2.1 D4.out)
      have HN : Hid (∀ h : k + 1 < m.left.length, last + d ≤ m.left[k + 1]) := fun h => by
        have := HRi.out.lt h (Nat.lt_succ_self k)
        have := HDk.out
        omega
      have HT : Hid (m.left.take (k + 1) = m.left.take k ++ [last + d]) := by show _ = _; rw [List.take_succ_eq_append_getElem hlt, HDk.out]
      clear hd
      go_wp2_with fail
      refine (mnext_any l _ (.slice A l.length c) at_ d 1099511627776 w.heap.size (w.heap.size + 1 + 1) (w.heap.size + 1 + 1 + 1) _ w _ w.heap.size HS.out (Kn.rd_below H.out HS.out.below) hl (by omega) (by omega) (by omega) (by omega) D4.out).mono ?_
      rintro e w4 ⟨rfl, h3⟩
      rw [← Int.natCast_add] at h3
      have f0 := h3.at 1 rfl 0 _ rfl
      have f1 := h3.at 4 rfl 2 _ rfl
      have S4 := hid ((h3.perm [5, 0, 1, 2, 3, 4] 6 (by decide) (by decide) (by simp)).inn1 .i64 (last + d))
      have HL : Hid (((m.left.take k).length + 1) * 8 ≤ 140737488355328) := by show _ ≤ _; rw [List.length_take]; omega
      clear h3 HS
      go_wp2_with (at_builtin; refine app1 rfl _ _ 25 _ 8 rfl Try.underlying25 info3 rfl (by decide) (by decide) S4.out rfl rfl HL.out ?_; intro v' w' h3 _; obtain ⟨A1, c1, hv, _⟩ := rd_slice h3.row_rd; rw [List.length_append, List.length_singleton] at hv; subst hv; have f2 := h3.at 5 rfl 2 _ rfl; have S5 := hid h3; clear h3)
      have S6 : Hid (∀ x, x = Value.slice A1 ((m.left.take k).length + 1) c1 → Star [Ck.blk (w.heap.size + 1 + 1) [.int .i64 ((at_ + (leb d).length : Nat) : Int)] 3, Ck.blk (w.heap.size + 1 + 1 + 1) [.bool false] 4, Ck.blk w.heap.size [.slice A l.length c] 22, Ck.blk (w.heap.size + 1) [.int .i64 0, .int .i64 0, .slice none 0 0] 55, Ck.blk w2.heap.size [.int .i64 m.from, .int .i64 m.to, x] 55, Ck.row 3 (.int .i64) x (m.left.take (k + 1))] w w.heap.size (w'.setCell ⟨w2.heap.size, 2, none⟩ x)) := by
        intro x hx
        subst hx
        rw [HT.out]
        exact ((S5.out.perm [5, 0, 1, 2, 3, 4] 6 (by decide) (by decide) (by simp)).set_blk 2 _).perm [2, 3, 4, 5, 0, 1] 6 (by decide) (by decide) (by simp)
      go_roundw
      case rel => exact ⟨k + 1, _, last + d, _, by go_num, by omega, rfl, by omega, by omega, ⟨HN.out, D5.out.2, D5.out.1⟩, S6.out _ (by simp; omega)⟩
      case measure => simp [intOf]; omega
    · obtain rfl : k = m.left.length := by omega
      rw [List.take_length] at HS
      obtain ⟨A2, c2, rfl, _⟩ := rd_slice (HS.out.front 5 _ rfl).row_rd
      have e0 := HS.out.at 0 rfl 0 _ rfl
      have e1 := HS.out.at 1 rfl 0 _ rfl
      have e2 := HS.out.at 2 rfl 0 _ rfl
      have e3 := HS.out.at 3 rfl 0 _ rfl
      have e4 := HS.out.at 3 rfl 1 _ rfl
      have e5 := HS.out.at 3 rfl 2 _ rfl
      have e6 := HS.out.at 4 rfl 0 _ rfl
      have e7 := HS.out.at 4 rfl 1 _ rfl
      have e8 := HS.out.at 4 rfl 2 _ rfl
      have hat : at_ = l.length := by
        have h5 := congrArg List.length HD.out.2.2
        have h6 := HD.out.2.1
        rw [List.drop_length, encDiffs, List.length_drop, List.length_nil] at h5
        omega
      have hb : ((at_ : Int) != (l.length : Int)) = false := by rw [bne_eq_false_iff_eq, hat]
      have HRd := hid (kMoving_mk (w := wr) (F := Any) (m := m) (HS.out.front 5 _ rfl).row_rd)
      clear hat
      go_wp2_with (go_at_call 109; refine (mRight_any m _ _ HRd.out HR.out).mono ?_; rintro e w4 ⟨rfl, hb4⟩; have S8 := hid (HS.out.go hb4); have f3 := S8.out.at 3 rfl 0 _ rfl; have f4 := S8.out.at 3 rfl 1 _ rfl; have f5 := S8.out.at 3 rfl 2 _ rfl; have f6 := S8.out.at 4 rfl 0 _ rfl; have f7 := S8.out.at 4 rfl 1 _ rfl; have f8 := S8.out.at 4 rfl 2 _ rfl; clear hb4)
      refine bodyPost_ret (v := .tuple #[.agg #[.int .i64 m.from, .int .i64 m.to, .slice A2 m.left.length c2], .int .i64 0]) (by simp [results, Try.results108, go_sem, f3, f4, f5]) rfl ⟨_, rfl, ?_⟩
      exact ((((S8.out.perm [3, 5] 6 (by decide) (by decide) (by simp)).set_blk 0 _).set_blk 1 _).set_blk 2 _).perm [1] 2 (by decide) (by decide) (by simp)
end Go.Proofs.Ytihfikepfhcboaa
