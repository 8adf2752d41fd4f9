/-
  Walks: TopMoved.
-/
import Derived.Test.YtihfikepfhcboaaS8
namespace Go.Proofs.Ytihfikepfhcboaa
open Go.RowKit Go.Maps

/-- The stripes below k that are named. -/
def named (l : List Int) (k : Nat) : List Int := List.map (fun s : Nat => (s : Int)) (List.filter (fun s : Nat => l.any fun x => x % 41 == (s : Int)) (List.range k))
theorem named_succ (l : List Int) (k : Nat) : named l (k + 1) = named l k ++ if l.any (fun x => x % 41 == (k : Int)) then [(k : Int)] else [] := by
  unfold named
  rw [List.range_succ, List.filter_append, List.map_append]
  congr 1
  by_cases h : l.any (fun x => x % 41 == (k : Int)) = true
  · rw [if_pos h]; simp only [List.filter_cons, h, if_true, List.filter_nil, List.map_cons, List.map_nil]
  · rw [if_neg h]; simp only [List.filter_cons, h, List.filter_nil]; rfl
theorem named_len (l : List Int) (k : Nat) : (named l k).length ≤ k := by
  unfold named
  rw [List.length_map]
  exact Nat.le_trans (List.length_filter_le _ _) (by simp)
theorem named_rise (l : List Int) {k : Nat} (hk : k ≤ 1000) : Rise (named l k) := by
  refine ⟨fun x hx => ?_, fun x hx => ?_, ?_⟩
  · obtain ⟨s, _, rfl⟩ := List.mem_map.1 hx; omega
  · obtain ⟨s, hs, rfl⟩ := List.mem_map.1 hx
    have := List.mem_range.1 (List.mem_filter.1 hs).1
    omega
  · unfold named
    rw [List.pairwise_map]
    refine List.Pairwise.imp (R := fun a b => a < b) (fun h => by omega) ?_
    exact List.Pairwise.sublist List.filter_sublist List.pairwise_lt_range

set_option maxHeartbeats 4000000 in
set_option maxRecDepth 100000 in
theorem top_any (a b c : Int) (l : List Int) (ys : List Shf) (v3 v4 : Value) (w : World) (ha : 0 ≤ a ∧ a < 256) (hb : 0 ≤ b ∧ b < 256) (hc : 0 ≤ c ∧ c < 256)
    (h3 : kBytes.rd w l [v3]) (h4 : (Kn.slice kShf).rd w ys [v4]) (hl : ∀ x ∈ l, 0 ≤ x ∧ x < 256) (hby : ∀ y ∈ ys, 0 ≤ y.src ∧ y.src < 256 ∧ 0 ≤ y.dst ∧ y.dst < 256 ∧ ∀ x ∈ y.mended, 0 ≤ x ∧ x < 256) :
    Calls Try.prog 3 #[.int .u8 a, .int .u8 b, .int .u8 c, v3, v4] w (Ret (.bool true) w) := by
  obtain ⟨A3, c3, rfl, _, hm3, _⟩ := rd_slice h3
  obtain ⟨A4, c4, rfl, _, hm4, _⟩ := rd_slice h4
  have hm3 := len63 hm3
  have hm4 := len63 hm4
  have H3 := hid h3
  have H4 := hid h4
  have HL := hid hl
  have HBy := hid hby
  clear h3 h4 hl hby
  by_cases hbig : 20 < ys.length ∨ 20 < l.length
  · rcases hbig with h1 | h1
    · have eb : decide ((ys.length : Int) > 20) = true := by rw [decide_eq_true_iff]; omega
      go_enter Try.func3, Try.ntmps3
      go_wp2_with (go_at_call 8; refine (known_any _).mono ?_; rintro e w1 ⟨rfl, hb1⟩)
      go_ret
      exact ⟨rfl, hb1⟩
    · rcases Nat.lt_or_ge 20 ys.length with h2 | h2
      · have eb : decide ((ys.length : Int) > 20) = true := by rw [decide_eq_true_iff]; omega
        go_enter Try.func3, Try.ntmps3
        go_wp2_with (go_at_call 8; refine (known_any _).mono ?_; rintro e w1 ⟨rfl, hb1⟩)
        go_ret
        exact ⟨rfl, hb1⟩
      · have eb : decide ((ys.length : Int) > 20) = false := by rw [decide_eq_false_iff_not]; omega
        have eb2 : decide ((l.length : Int) > 20) = true := by rw [decide_eq_true_iff]; omega
        go_enter Try.func3, Try.ntmps3
        go_wp2_with (go_at_call 8; refine (known_any _).mono ?_; rintro e w1 ⟨rfl, hb1⟩)
        go_ret
        exact ⟨rfl, hb1⟩
  · have hy20 : ys.length ≤ 20 := by omega
    have hl20 : l.length ≤ 20 := by omega
    have eb : decide ((ys.length : Int) > 20) = false := by rw [decide_eq_false_iff_not]; omega
    have eb2 : decide ((l.length : Int) > 20) = false := by rw [decide_eq_false_iff_not]; omega
    clear hbig
    have S0 := hid ((Star.nil w).nilrow 3 (.int .i64))
    go_enter Try.func3, Try.ntmps3
    go_wp2
    go_loopw [11, 12] (fun v11 i wr => ∃ k : Nat, i = .int .i64 k ∧ k ≤ 41 ∧ Hid (Star [Ck.row 3 (.int .i64) v11 (named l k)] w w.heap.size wr)) (fun _ i _ => 41 - (intOf i).toNat)
    case atStart => exact ⟨0, rfl, by omega, by show Star [Ck.row 3 _ _ (named l 0)] _ _ _; exact S0.out⟩
    case round =>
      clear S0
      obtain ⟨k, rfl, hk, HS⟩ := hrel
      by_cases hlt : k < 41
      · have HLT := hid hlt
        obtain ⟨wo, rfl⟩ : ∃ wo : World, wo = wr := ⟨_, rfl⟩
        have HN := hid (named_succ l k)
        have hlen := named_len l k
        go_wp2
        go_loopw [11, 14, 33] (fun v11 _ i wr' => ∃ q : Nat, i = .int .i64 q ∧ q ≤ l.length ∧ v11 = u11 ∧ Hid ((l.take q).any (fun x => x % 41 == (k : Int)) = false) ∧ Hid (wr' = wo)) (fun _ _ i _ => l.length - (intOf i).toNat)
        case atStart => exact ⟨0, rfl, by omega, rfl, rfl, hid rfl⟩
        case round =>
          obtain ⟨q, rfl, hq, rfl, HA, HW⟩ := hrel
          have hw := HW.out
          subst hw
          clear HW
          by_cases hlq : q < l.length
          · obtain ⟨ad, rfl, hcl⟩ := rd_get1 (Kn.rd_below H3.out HS.out.below) q hlq
            obtain ⟨x0, x1⟩ := HL.out _ (List.getElem_mem hlq)
            obtain ⟨s, hs⟩ : ∃ s, l[q] % 41 = s := ⟨_, rfl⟩
            have hq1 : l[q].tmod 41 = s := by rw [Int.tmod_eq_emod_of_nonneg x0]; exact hs
            have s0 : 0 ≤ s := by omega
            have s1 : s < 41 := by omega
            by_cases he : s = k
            · subst he
              have hany : l.any (fun x => x % 41 == (k : Int)) = true := List.any_eq_true.2 ⟨l[q], List.getElem_mem hlq, by simpa using hs⟩
              have HAny := hid hany
              have HP := hid (HS.out.inn1 .i64 (k : Int))
              have HLn : Hid (((named l k).length + 1) * 8 ≤ 140737488355328) := by show _ ≤ _; omega
              have heb : ((k : Int) == (k : Int)) = true := by simp
              clear hany hs
              go_wp2_with (at_builtin; refine app1 rfl _ _ 25 _ 8 rfl Try.underlying25 info3 rfl (by decide) (by decide) HP.out rfl rfl HLn.out ?_; intro v' w' h6 _; have HN2 := hid h6; clear h6)
              go_roundw
              case rel => exact ⟨k + 1, by go_num, by have := HLT.out; omega, by rw [HN.out, HAny.out, if_pos rfl]; exact HN2.out⟩
              case measure => have := HLT.out; simp [intOf]; omega
            · have heb : ((k : Int) == s) = false := by rw [beq_eq_false_iff_ne]; exact fun h => he h.symm
              have heb2 : (s == (k : Int)) = false := by rw [beq_eq_false_iff_ne]; exact he
              have HA2 : Hid ((l.take (q + 1)).any (fun x => x % 41 == (k : Int)) = false) := by
                show _ = _
                rw [take_snoc hlq, List.any_append, HA.out, Bool.false_or, List.any_cons, List.any_nil, Bool.or_false, hs]; exact heb2
              have HLQ := hid hlq
              clear hs
              go_wp2
              go_roundw
              case rel => exact ⟨q + 1, by go_num, by have := HLQ.out; omega, rfl, HA2, by first | exact hid rfl | exact hid trivial⟩
              case measure => have := HLQ.out; simp [intOf]; omega
          · obtain rfl : q = l.length := by omega
            rw [List.take_length] at HA
            go_wp2
            go_roundw
            case rel => exact ⟨k + 1, by go_num, by have := HLT.out; omega, by rw [HN.out, HA.out]; show Star _ _ _ _; simpa using HS.out⟩
            case measure => have := HLT.out; simp [intOf]; omega
      · obtain rfl : k = 41 := by omega
        have HR := hid (named_rise l (k := 41) (by omega))
        have hln := named_len l 41
        go_wp2
        go_loopw [15, 49] (fun _ i wr' => ∃ q : Nat, i = .int .i64 q ∧ q ≤ ys.length ∧ Hid (Star [Ck.row 3 (.int .i64) u11 (named l 41)] w w.heap.size wr')) (fun _ i _ => ys.length - (intOf i).toNat)
        case atStart => exact ⟨0, rfl, by omega, HS.out⟩
        case round =>
          clear HS
          obtain ⟨q, rfl, hq, HS⟩ := hrel
          by_cases hlq : q < ys.length
          · obtain ⟨ad, cl, rfl, q1, q2, q3⟩ := rd_getS (Kn.rd_below H4.out HS.out.below) 3 rfl q hlq
            obtain ⟨vm, rfl, q4⟩ := kShf_open q1
            obtain ⟨Am, cm, rfl, _⟩ := rd_slice q4
            have e2 := q3 1 _ rfl
            obtain ⟨len, hlen⟩ : ∃ len, ys[q].mended.length = len := ⟨_, rfl⟩
            rw [hlen] at e2
            clear q1 q2 q3 q4 hlen
            have HLQ := hid hlq
            by_cases hml : 20 < len
            · have ebm : decide ((len : Int) > 20) = true := by rw [decide_eq_true_iff]; omega
              go_wp2_with (go_at_call 8; refine (known_any _).mono ?_; rintro e w1 ⟨rfl, hb1⟩)
              go_ret
              exact ⟨rfl, (HS.out.go hb1).below⟩
            · have ebm : decide ((len : Int) > 20) = false := by rw [decide_eq_false_iff_not]; omega
              go_wp2
              go_roundw
              case rel => exact ⟨q + 1, by go_num, by have := HLQ.out; omega, HS.out⟩
              case measure => have := HLQ.out; simp [intOf]; omega
          · obtain ⟨na, hna⟩ : ∃ n, a % 9 = n := ⟨_, rfl⟩
            obtain ⟨nb, hnb⟩ : ∃ n, b % 9 = n := ⟨_, rfl⟩
            obtain ⟨nc, hnc⟩ : ∃ n, c % 7 = n := ⟨_, rfl⟩
            have ta : a.tmod 9 = na := by rw [Int.tmod_eq_emod_of_nonneg ha.1]; exact hna
            have tb : b.tmod 9 = nb := by rw [Int.tmod_eq_emod_of_nonneg hb.1]; exact hnb
            have tc : c.tmod 7 = nc := by rw [Int.tmod_eq_emod_of_nonneg hc.1]; exact hnc
            have a0 : 0 ≤ na ∧ na < 9 := by omega
            have b0 : 0 ≤ nb ∧ nb < 9 := by omega
            have c0 : 0 ≤ nc ∧ nc < 7 := by omega
            have HM : Hid (∀ (w' : World) (v : Value), kInts.rd w' (named l 41) [v] → (Kn.slice kShf).rd w' ys [.slice A4 ys.length c4] → Calls Try.prog 9 #[.int .i64 (1 + na), .int .i64 (1 + nb), .int .i64 (1 + nc), v, .slice A4 ys.length c4] w' fun en w'' => ∃ m : Int, en = .returned (.tuple #[.int .i64 m, .bool true]) ∧ Below w'.heap.size w' w'') := fun w' v hs hh => by
              have ea : (1 + na : Int) = ((1 + na.toNat : Nat) : Int) := by omega
              have eb : (1 + nb : Int) = ((1 + nb.toNat : Nat) : Int) := by omega
              have ec : (1 + nc : Int) = ((1 + nc.toNat : Nat) : Int) := by omega
              rw [ea, eb, ec]
              by_cases hn : 1 + nb.toNat ≤ 1 + na.toNat
              · refine (moved_yes _ _ _ (named l 41) ys v _ w' (by omega) (by omega) (by omega) hn (by omega) (by omega) hs hh HR.out (by omega) hy20 HBy.out).mono ?_
                rintro e w'' ⟨rfl, hb⟩
                exact ⟨_, rfl, hb⟩
              · refine (moved_no _ _ _ v _ w' (by omega) (by omega) (by omega) (by omega) (by omega) (by omega)).mono ?_
                rintro e w'' ⟨rfl, hb⟩
                exact ⟨_, rfl, hb⟩
            clear hna hnb hnc ha hb hc
            go_wp2_with (first
              | (go_at_call 9; refine (HM.out _ _ HS.out.row_rd (Kn.rd_below H4.out HS.out.below)).mono ?_; rintro e w1 ⟨m, rfl, hb1⟩; have S1 := hid (HS.out.go hb1))
              | (go_at_call 8; refine (known_any _).mono ?_; rintro e w2 ⟨rfl, hb2⟩; have S2 := hid (S1.out.go hb2)))
            go_ret
            exact ⟨rfl, S2.out.below⟩
end Go.Proofs.Ytihfikepfhcboaa
