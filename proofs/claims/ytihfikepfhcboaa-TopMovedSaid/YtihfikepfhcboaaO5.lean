/-
  Walks: left17.
-/
import Derived.Test.YtihfikepfhcboaaO4
import Derived.Test.YtihfikepfhcboaaN5
import Derived.Laws.BytesArg
namespace Go.Proofs.Ytihfikepfhcboaa
open Go.RowKit Go.Maps

theorem encMove_len {m : Moving} (hR : MRight m) : (encMove m).length ≤ 1000000 := by
  have e2 := encDiffs_len (l := m.left) (p := 0) (by omega) fun x hx => ⟨hR.rise.lo x hx, hR.rise.hi x hx⟩
  have e3 := leb_length3 (n := m.from) (by have := hR.f1; omega)
  have e4 := leb_length3 (n := m.to) (by have := hR.t1; omega)
  have e5 := leb_length3 (n := m.left.length) (by have := hR.len; omega)
  have := hR.len
  simp only [encMove, List.length_append]
  omega

/-- The string of a row of bytes. -/
theorem row_str {v : Value} {xs : List Int} {cs : List Ck} {w0 w : World} {B : Nat} (h : Star (Ck.row 5 (.int .u8) v xs :: cs) w0 B w) :
    (convert 22 9 v).run Try.prog w = .ok (.string (strOfNums xs)) w := by
  obtain ⟨A, c, rfl, _⟩ := rd_slice h.row_rd
  rcases A with _ | ad
  · have hx : xs = [] := by
      rcases h.head with ⟨_, h0⟩ | ⟨_, _, _, h0, _⟩
      · exact h0
      · cases h0
    subst hx
    rw [run_convert_bytes_nil w 22 5 Try.underlying22 Try.underlying5 _ _ 9 Try.underlying9]
    rfl
  · by_cases hn : 0 < xs.length
    · obtain ⟨g, cap, hv, _⟩ := h.row_form hn
      simp only [Value.slice.injEq, Option.some.injEq] at hv
      obtain ⟨rfl, _, rfl⟩ := hv
      refine run_convert_bytes_arg w 22 5 Try.underlying22 Try.underlying5 g 0 _ _ xs rfl (fun i hi => ?_) 9 Try.underlying9
      rw [Nat.zero_add, List.getD_eq_getElem?_getD, List.getElem?_eq_getElem hi]
      exact (row_head h i hi).1
    · obtain rfl : xs = [] := List.eq_nil_of_length_eq_zero (by omega)
      obtain ⟨b, off, spot⟩ := ad
      rcases h.head with ⟨h0, _⟩ | ⟨_, _, _, h0, _⟩
      · cases h0
      · simp only [Value.slice.injEq, Option.some.injEq] at h0
        obtain ⟨h0, _, _⟩ := h0
        cases h0
        exact run_convert_bytes_arg w 22 5 Try.underlying22 Try.underlying5 _ 0 _ _ [] rfl (fun i hi => absurd hi (by simp)) 9 Try.underlying9

theorem num_same {a : List Int} {va vb : Value} {w : World} (ha : kInts.rd w a [va]) (hb : kInts.rd w a [vb]) : Calls Try.prog 29 #[va, vb] w (RetQ (.bool true) w) := by
  have := numbers17_any a a va vb w ha hb
  rwa [decide_eq_true rfl] at this

set_option maxHeartbeats 8000000 in
set_option maxRecDepth 100000 in
theorem left_any (m : Moving) (cs : List Value) (v : Value) (w : World) (h : kMoving.rd w m cs) (hv : kInts.rd w m.left [v]) (hR : MRight m) :
    Calls Try.prog 22 #[.agg cs.toArray, .int .i64 m.from, .int .i64 m.to, v] w (Ret (.bool true) w) := by
  obtain ⟨v0, rfl, h1⟩ := kMoving_open h
  obtain ⟨A0, c0, rfl, _⟩ := rd_slice h1
  obtain ⟨A, c, rfl, _, hm, _⟩ := rd_slice hv
  have H := hid h
  have HI := hid hv
  have HJ := hid h1
  have HR := hid hR
  have HRi := hid hR.rise
  obtain ⟨g1, g2, g3, g4, g5, g6, g7⟩ := hR
  have S0 := hid ((Star.nil w).box2 w.heap.size rfl [.int .i64 m.from, .int .i64 m.to, .slice A0 m.left.length c0] 55)
  have l3 := leb_length3 (n := m.from) (by omega)
  have l4 := leb_length3 (n := m.to) (by omega)
  have l5 := leb_length3 (n := (m.left.length : Int)) (by omega)
  have HL1 := hid (show ((leb m.from).length + (leb m.to).length) * 1 ≤ 140737488355328 by omega)
  have HL2 := hid (show ((leb m.from ++ leb m.to).length + (leb (m.left.length : Int)).length) * 1 ≤ 140737488355328 by rw [List.length_append]; omega)
  have HC1 := fun w => low17_any (m.from.toNat + 1) m.from w (by omega) (by omega) (by omega)
  have HC2 := fun w => low17_any (m.to.toNat + 1) m.to w (by omega) (by omega) (by omega)
  have HC3 := fun w => low17_any ((m.left.length : Int).toNat + 1) (m.left.length : Int) w (by omega) (by omega) (by omega)
  clear h h1 hv hm g5 g7 l3 l4 l5
  go_enter Try.func22, Try.ntmps22
  go_wp2_with (first
    | (go_at_call 23; (with_reducible show Calls Try.prog 23 #[Value.int .i64 m.from] _ _); refine (HC1 _).mono ?_; rintro e w1 ⟨v1, rfl, h1⟩; have S1 := hid (S0.out.frame h1); clear h1)
    | (go_at_call 23; (with_reducible show Calls Try.prog 23 #[Value.int .i64 m.to] _ _); refine (HC2 _).mono ?_; rintro e w2 ⟨v2, rfl, h2⟩; have S2 := hid ((S1.out.frame h2).front 1 _ rfl); clear h2)
    | (go_at_call 23; refine (HC3 _).mono ?_; rintro e w4 ⟨v4, rfl, h4⟩; have S4 := hid ((S3.out.frame h4).front 1 _ rfl); clear h4)
    | (at_builtin; refine appS rfl _ _ 22 _ 1 rfl Try.underlying22 info5 rfl (by decide) S2.out rfl rfl (S2.out.front 1 _ rfl).row_rd HL1.out ?_; intro v3 w3 h3 _ _; have S3 := hid (h3.perm [0, 2] 3 (by decide) (by decide) (by simp)); clear h3)
    | (at_builtin; refine appS rfl _ _ 22 _ 1 rfl Try.underlying22 info5 rfl (by decide) S4.out rfl rfl (S4.out.front 1 _ rfl).row_rd HL2.out ?_; intro v5 w5 h5 _ _; have S5 := hid (h5.perm [0, 2] 3 (by decide) (by decide) (by simp)); clear h5))
  have S6 : Hid (Star [Ck.row 5 (.int .u8) v5 (leb m.from ++ leb m.to ++ leb m.left.length), Ck.blk w.heap.size [.int .i64 m.from, .int .i64 m.to, .slice A0 m.left.length c0] 55] w w.heap.size w5) := S5.out
  go_loopw [9, 10, 12, 28] (fun v9 vl _ i wr => ∃ (k : Nat) (last : Int) (D : List Int), i = .int .i64 k ∧ k ≤ m.left.length ∧ vl = .int .i64 last ∧ 0 ≤ last ∧ last ≤ 1000 ∧ Hid ((∀ h : k < m.left.length, last ≤ m.left[k]) ∧ D ++ encDiffs last (m.left.drop k) = encDiffs 0 m.left) ∧
    Hid (Star [Ck.row 5 (.int .u8) v9 (leb m.from ++ leb m.to ++ leb m.left.length ++ D), Ck.blk w.heap.size [.int .i64 m.from, .int .i64 m.to, .slice A0 m.left.length c0] 55] w w.heap.size wr)) (fun _ _ _ i _ => m.left.length - (intOf i).toNat)
  case atStart => exact ⟨0, 0, [], rfl, by omega, rfl, by omega, by omega, ⟨fun h => HRi.out.lo _ (List.getElem_mem h), rfl⟩, by show Star _ _ _ _; rw [List.append_nil]; exact S6.out⟩
  case round =>
    clear S0 S1 S2 S3 S4 S5 S6 HC1 HC2 HC3
    obtain ⟨k, last, D, rfl, hk, rfl, hl0, hl1, HD, HS⟩ := hrel
    by_cases hlt : k < m.left.length
    · obtain ⟨ad, rfl, hc⟩ := rd_get1 (Kn.rd_below HI.out HS.out.below) k hlt
      have x0 := HD.out.1 hlt
      have x1 := HRi.out.hi _ (List.getElem_mem hlt)
      have HDn : Hid ((∀ h : k + 1 < m.left.length, m.left[k] ≤ m.left[k + 1]) ∧ (D ++ leb (m.left[k] - last)) ++ encDiffs m.left[k] (m.left.drop (k + 1)) = encDiffs 0 m.left) := by
        refine ⟨fun h => Int.le_of_lt (HRi.out.lt h (Nat.lt_succ_self k)), ?_⟩
        have := HD.out.2
        rw [drop_cons hlt, encDiffs] at this
        rw [List.append_assoc]; exact this
      have HL : Hid (((leb m.from ++ leb m.to ++ leb m.left.length ++ D).length + (leb (m.left[k] - last)).length) * 1 ≤ 140737488355328) := by
        have e1 := congrArg List.length HD.out.2
        have e2 := encMove_len HR.out
        have e3 := leb_length3 (n := m.left[k] - last) (by omega)
        rw [List.length_append] at e1
        simp only [encMove, List.length_append] at e2
        show _ ≤ _
        simp only [List.length_append]; omega
      have hw : IntKind.i64.wrap (m.left[k] - last) = m.left[k] - last := IntWalk.i64_in _ (by omega)
      have HC := fun w => low17_any ((m.left[k] - last).toNat + 1) (m.left[k] - last) w (by omega) (by omega) (by omega)
      go_wp2_with (first
        | (go_at_call 23; refine (HC _).mono ?_; rintro e w1 ⟨v1, rfl, h1⟩; have S1 := hid ((HS.out.frame h1).front 1 _ rfl); clear h1)
        | (at_builtin; refine appS rfl _ _ 22 _ 1 rfl Try.underlying22 info5 rfl (by decide) S1.out rfl rfl (S1.out.front 1 _ rfl).row_rd HL.out ?_; intro v3 w3 h3 _ _; have S3 := hid (h3.perm [0, 2] 3 (by decide) (by decide) (by simp)); clear h3))
      go_roundw
      case rel => exact ⟨k + 1, m.left[k], _, by go_num, by omega, rfl, by omega, by omega, HDn, by rw [← List.append_assoc]; exact S3.out⟩
      case measure => simp [intOf]; omega
    · obtain rfl : k = m.left.length := by omega
      have HF : Hid (leb m.from ++ leb m.to ++ leb m.left.length ++ D = encMove m) := by
        have := HD.out.2
        rw [List.drop_length, encDiffs, List.append_nil] at this
        rw [this]; rfl
      rw [HF.out] at HS
      have e0 := HS.out.at 1 rfl 0 _ rfl
      have e1 := HS.out.at 1 rfl 1 _ rfl
      have e2 := HS.out.at 1 rfl 2 _ rfl
      have HX : Hid ((encMove m).length ≤ 1000000) := encMove_len HR.out
      have EBL : Hid (decide (m.left = []) = ((m.left.length : Int) == 0)) := by
        show _ = _
        rw [Bool.eq_iff_iff]; simp
      clear HD HF
      go_wp2_with (first
        | (go_at_call 107; refine (mBytes_any m _ _ (Kn.rd_below H.out HS.out.below) HR.out).mono ?_; rintro e w1 ⟨v13, rfl, h1⟩; have S1 := hid (HS.out.frame h1); clear h1)
        | (go_at_call 108; refine (mRead_any m (encMove m) v13 _ S1.out.row_rd HX.out rfl HR.out).mono ?_; rintro e w2 ⟨v15, rfl, h2⟩; obtain ⟨A5, c5, rfl, _⟩ := rd_slice h2.row_rd; have S2 := hid ((S1.out.frame h2).box2 w2.heap.size rfl [.int .i64 m.from, .int .i64 m.to, .slice A5 m.left.length c5] 55); have p0 := S2.out.at 4 rfl 0 _ rfl; have p1 := S2.out.at 4 rfl 1 _ rfl; have p2 := S2.out.at 4 rfl 2 _ rfl; clear h2)
        | (go_at_call 29; (with_reducible show Calls Try.prog 29 #[Value.slice A0 _ c0, _] _ _); refine (num_same (Kn.rd_below HJ.out S2.out.below) (Kn.rd_below HI.out S2.out.below)).mono ?_; rintro e w3 ⟨rfl, n3, rfl⟩; have S3 := hid (S2.out.drewN n3); have r0 := S3.out.at 4 rfl 0 _ rfl; have r1 := S3.out.at 4 rfl 1 _ rfl; have r2 := S3.out.at 4 rfl 2 _ rfl)
        | (go_at_call 109; refine (mRight_any m _ _ (Kn.rd_below H.out S3.out.below) HR.out).mono ?_; rintro e w4 ⟨rfl, hb4⟩; have S4 := hid (S3.out.go hb4); have s0 := S4.out.at 4 rfl 0 _ rfl; have s1 := S4.out.at 4 rfl 1 _ rfl; have s2 := S4.out.at 4 rfl 2 _ rfl)
        | (go_at_call 110; refine (mOver_any m _ _ (Kn.rd_below H.out S4.out.below) HR.out).mono ?_; rintro e w5 ⟨rfl, hb5⟩; have S5 := hid (S4.out.go hb5); have u0 := S5.out.at 0 rfl 0 _ rfl; have u1 := S5.out.at 0 rfl 1 _ rfl; have u2 := S5.out.at 0 rfl 2 _ rfl; have d0 := row_str (S5.out.front 2 _ rfl); have d1 := row_str (S5.out.front 3 _ rfl))
        | (go_at_call 29; (with_reducible show Calls Try.prog 29 #[Value.slice A5 _ c5, _] _ _); refine (num_same (S5.out.front 1 _ rfl).row_rd (Kn.rd_below HI.out S5.out.below)).mono ?_; rintro e w6 ⟨rfl, n6, rfl⟩; have S6 := hid (S5.out.drewN n6)))
      · go_ret
        exact ⟨rfl, S6.out.below⟩
end Go.Proofs.Ytihfikepfhcboaa
