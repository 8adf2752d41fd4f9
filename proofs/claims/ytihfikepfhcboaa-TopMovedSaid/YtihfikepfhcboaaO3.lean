/-
  Walks: move.Begin.
-/
import Derived.Test.YtihfikepfhcboaaO2
namespace Go.Proofs.Ytihfikepfhcboaa
open Go.RowKit Go.Maps

/-- The stripes that a move leaves. -/
def lefts (l : List Place) (frm : Int) (sl : List Int) : List Int := sl.filter fun s => decide (s % (l.length : Int) ∈ grs frm l)

theorem lefts_snoc (l : List Place) (frm : Int) (sl : List Int) (s : Int) : lefts l frm (sl ++ [s]) = lefts l frm sl ++ if s % (l.length : Int) ∈ grs frm l then [s] else [] := by
  unfold lefts
  rw [List.filter_append]
  congr 1
  by_cases h : s % (l.length : Int) ∈ grs frm l <;> simp [h]

theorem lefts_len (l : List Place) (frm : Int) (sl : List Int) : (lefts l frm sl).length ≤ sl.length := List.length_filter_le _ _

theorem grs_mem {frm : Int} {l : List Place} {x : Int} (h : x ∈ grs frm l) : 0 ≤ x ∧ x < l.length := by
  unfold grs at h
  obtain ⟨⟨p, i⟩, h1, h2⟩ := List.mem_filterMap.1 h
  have := List.snd_lt_of_mem_zipIdx h1
  by_cases hf : frm ∈ p.nodes
  · simp [hf] at h2
    simp at this
    omega
  · simp [hf] at h2

theorem cnt_snoc (xs : List Int) (x : Int) : (fun z => if z = x then ((xs.count x : Nat) : Int) + 1 else ((xs.count z : Nat) : Int)) = fun z => (((xs ++ [x]).count z : Nat) : Int) := by
  funext z
  rw [List.count_append]
  by_cases e : z = x
  · subst e; simp
  · rw [if_neg e, List.count_cons_of_ne (Ne.symm e)]; simp

set_option maxHeartbeats 4000000 in
set_option maxRecDepth 100000 in
theorem begin_yes (l : List Place) (v : Value) (frm tt : Int) (sl : List Int) (vs : Value) (w : World) (h : kPlaces.rd w l [v]) (h0 : 1 ≤ l.length) (h1 : l.length ≤ 1000) (hR : ∀ p ∈ l, PRight p)
    (f0 : 0 ≤ frm) (f1 : frm < 256) (t0 : 0 ≤ tt) (t1 : tt < 256) (hft : frm ≠ tt) (hx : l.any (hinders frm tt) = false) (hs : kInts.rd w sl [vs]) (hsr : Rise sl) (hsl : sl.length ≤ 1000) :
    Calls Try.prog 28 #[v, .int .i64 frm, .int .i64 tt, vs] w fun en w' => ∃ v1 v2, en = .returned (.tuple #[v1, .agg #[.int .i64 frm, .int .i64 tt, v2], .int .i64 0]) ∧
      Star [Ck.row 214 kPlace v1 (l.map (mv1 frm tt)), Ck.row 3 (.int .i64) v2 (lefts l frm sl)] w w.heap.size w' := by
  obtain ⟨A, c, rfl, _, h3, _⟩ := rd_slice h
  have h3 := len63 h3
  obtain ⟨As, cs, rfl, _⟩ := rd_slice hs
  have H := hid h
  have H2 := hid hs
  have HSR := hid hsr
  have HM : Hid (∀ w', kPlaces.rd w' l [.slice A l.length c] → Calls Try.prog 27 #[.slice A l.length c, .int .i64 frm, .int .i64 tt] w' fun en w'' => ∃ v vg, en = .returned (.tuple #[v, vg, .int .i64 0]) ∧ Star [Ck.row 214 kPlace v (l.map (mv1 frm tt)), Ck.row 3 (.int .i64) vg (grs frm l)] w' w'.heap.size w'') := fun w' hh => move_yes l _ frm tt w' hh h0 h1 hR f0 f1 t0 t1 hft hx
  have S0 := hid ((Star.nil w).box2 w.heap.size rfl [.int .i64 0, .int .i64 0, .slice none 0 0] 55)
  have hmm := @run_makeMap Try.prog
  clear h hR f0 f1 t0 t1 hx hft hs hsr
  go_enter Try.func28, Try.ntmps28
  go_wp2_with (first
    | (go_at_call 27; refine (HM.out _ (Kn.rd_below H.out (below1 _ _))).mono ?_; rintro e w1 ⟨v1, vg, rfl, h4⟩; have S1 := hid (S0.out.frame h4); simp only [List.cons_append, List.nil_append] at S1; obtain ⟨A1, c1, rfl, _, hg1, _⟩ := rd_slice (h4.front 1 _ rfl).row_rd; have hg1 := len63 hg1)
    | (go_at_call 121; refine (rising_any sl _ _ (Kn.rd_below H2.out S1.out.below) HSR.out).mono ?_; rintro e w2 ⟨rfl, hb⟩; have S2 := hid ((S1.out.go hb).cnt_new)))
  go_loopw [16, 39] (fun _ i wr => ∃ k : Nat, i = .int .i64 k ∧ k ≤ (grs frm l).length ∧ Hid (Star [Ck.cnt w2.heap.size k (fun z => (((grs frm l).take k).count z : Nat)), Ck.row 214 kPlace v1 (l.map (mv1 frm tt)), Ck.row 3 (.int .i64) (.slice A1 (grs frm l).length c1) (grs frm l), Ck.blk w.heap.size [.int .i64 0, .int .i64 0, .slice none 0 0] 55] w w.heap.size wr)) (fun _ i _ => (grs frm l).length - (intOf i).toNat)
  case atStart => exact ⟨0, rfl, by omega, S2.out⟩
  case round =>
    clear S2 S1 S0 HM
    obtain ⟨k, rfl, hk, HS⟩ := hrel
    by_cases hlt : k < (grs frm l).length
    · obtain ⟨_, D, hown, hat⟩ := HS.out.head
      obtain ⟨ad, rfl, hc⟩ := rd_get1 (HS.out.front 2 _ rfl).row_rd k hlt
      have hx := grs_mem (List.getElem_mem hlt)
      have hkey := keyOf_int_mk (P := Try.prog) Try.underlying3 (wf64 (x := (grs frm l)[k]) (by omega) (by omega))
      have hkl : k ≤ 1000 := by have := grs_len frm l; omega
      have hcm : ((grs frm l).take k).count (grs frm l)[k] ≤ 1000 := Nat.le_trans (List.count_le_length) (by rw [List.length_take]; omega)
      have hkm : k < maxLen := by have : maxLen = 9223372036854775807 := rfl; omega
      have HO := hid hown
      have HA := hid hat
      have HCM := hid hcm
      clear hown hat hx hcm
      go_wp2_with (first
        | (at_lookup; refine wpList_lookup_own_int _ rfl _ _ 226 rfl 3 3 .i64 law3 Try.underlying226 Try.underlying3 (zero3 _) w2.heap.size k D rfl HO.out _ _ rfl hkey ?_; intro c' hat2 hwc; have hce : c' = (((grs frm l).take k).count (grs frm l)[k] : Nat) := (by have := (HA.out (grs frm l)[k]).symm.trans hat2; simpa using this.symm); have ew : IntKind.i64.wrap (c' + 1) = c' + 1 := IntWalk.i64_in _ (by have := HCM.out; omega); have hwv : (Lit.int .i64 (c' + 1)).wf = true := wf64 (by have := HCM.out; omega) (by have := HCM.out; omega); have HCE := hid hce; clear hce hat2 hwc)
        | (at_mapUpdate; refine wpList_mapUpdate_own _ rfl _ _ _ 226 rfl 3 3 law3 Try.underlying226 _ w2.heap.size k D rfl HO.out hkm _ _ _ rfl rfl hkey _ [] (plainElem_int Try.underlying3 hwv) ?_; intro w3 hown2 hg2; have S3 := hid (HS.out.cnt_put HO.out HA.out hown2 hg2); clear hown2 hg2))
      have HF : (fun z => if z = (grs frm l)[k] then c' + 1 else (fun z => (((grs frm l).take k).count z : Int)) z) = fun z => ((((grs frm l).take (k + 1)).count z : Nat) : Int) := by
        rw [HCE.out, take_snoc hlt]; exact cnt_snoc _ _
      go_roundw
      case rel => exact ⟨k + 1, by go_num, by omega, by have := S3.out; rw [HF] at this; exact this⟩
      case measure => simp [intOf]; omega
    · obtain rfl : k = (grs frm l).length := by omega
      rw [List.take_length] at HS
      obtain ⟨wo, rfl⟩ : ∃ wo : World, wo = wr := ⟨_, rfl⟩
      have S4 := hid ((HS.out.nilrow 3 (.int .i64)).box2 wo.heap.size rfl [.int .i64 frm, .int .i64 tt, .slice none 0 0] 55)
      have hle := grs_len frm l
      have hl0 : ((l.length : Int) == 0) = false := by rw [beq_eq_false_iff_ne]; omega
      have bl0 := (HS.out.front 3 _ rfl).blk_lt
      go_wp2
      go_loopw [19, 53] (fun _ j wr' => ∃ (m : Nat) (vN : Value), j = .int .i64 m ∧ m ≤ sl.length ∧ Hid (Star [Ck.blk wo.heap.size [.int .i64 frm, .int .i64 tt, vN] 55, Ck.row 3 (.int .i64) vN (lefts l frm (sl.take m)), Ck.cnt w2.heap.size (grs frm l).length (fun z => ((grs frm l).count z : Nat)), Ck.row 214 kPlace v1 (l.map (mv1 frm tt)), Ck.row 3 (.int .i64) (.slice A1 (grs frm l).length c1) (grs frm l), Ck.blk w.heap.size [.int .i64 0, .int .i64 0, .slice none 0 0] 55] w w.heap.size wr')) (fun _ j _ => sl.length - (intOf j).toNat)
      case atStart => exact ⟨0, _, rfl, by omega, S4.out⟩
      case round =>
        clear HS S4
        obtain ⟨m, vN, rfl, hm, HS⟩ := hrel
        by_cases hlm : m < sl.length
        · obtain ⟨A2, c2, rfl, hA2, _⟩ := rd_slice (HS.out.front 1 _ rfl).row_rd
          obtain ⟨_, D, hown, hat⟩ := (HS.out.front 2 _ rfl).head
          obtain ⟨ad, rfl, hc⟩ := rd_get1 (Kn.rd_below H2.out HS.out.below) m hlm
          have e0 := HS.out.at 0 rfl 0 _ rfl
          have e1 := HS.out.at 0 rfl 1 _ rfl
          have e2 := HS.out.at 0 rfl 2 _ rfl
          have hs0 := HSR.out.lo _ (List.getElem_mem hlm)
          have hmod0 := Int.emod_nonneg sl[m] (show (l.length : Int) ≠ 0 by omega)
          have hmod1 := Int.emod_lt_of_pos sl[m] (show (0 : Int) < l.length by omega)
          have hq : sl[m].tmod (l.length : Int) = sl[m] % (l.length : Int) := Int.tmod_eq_emod_of_nonneg hs0
          have hkey := keyOf_int_mk (P := Try.prog) Try.underlying3 (wf64 (x := sl[m] % (l.length : Int)) (by omega) (by omega))
          have HO := hid hown
          have HA := hid hat
          clear hown hat hs0 hmod0 hmod1 hA2
          by_cases hg : sl[m] % (l.length : Int) ∈ grs frm l
          · have hcp : 0 < (grs frm l).count (sl[m] % (l.length : Int)) := List.count_pos_iff.2 hg
            have HCP := hid hcp
            have hlen := lefts_len l frm (sl.take m)
            rw [List.length_take] at hlen
            have HL : Hid (((lefts l frm (sl.take m)).length + 1) * 8 ≤ 140737488355328) := by show _ ≤ _; omega
            have ebn : decide (((lefts l frm (sl.take m)).length : Int) ≥ 10000) = false := by rw [decide_eq_false_iff_not]; omega
            have HN : Hid (lefts l frm (sl.take (m + 1)) = lefts l frm (sl.take m) ++ [sl[m]]) := by show _ = _; rw [take_snoc hlm, lefts_snoc, if_pos hg]
            have HP := hid ((HS.out.perm [1, 0, 2, 3, 4, 5] 6 (by decide) (by decide) (by simp)).inn1 .i64 sl[m])
            clear hg hcp hlen
            go_wp2_with (first
              | (at_lookup; refine wpList_lookup_own_int _ rfl _ _ 226 rfl 3 3 .i64 law3 Try.underlying226 Try.underlying3 (zero3 _) w2.heap.size (grs frm l).length D rfl HO.out _ _ rfl hkey ?_; intro c' hat2 _; have hce : c' = ((grs frm l).count (sl[m] % (l.length : Int)) : Nat) := (by have := (HA.out (sl[m] % (l.length : Int))).symm.trans hat2; simpa using this.symm); clear hat2; have hcz : (c' == 0) = false := (by have := HCP.out; rw [beq_eq_false_iff_ne]; omega); clear hce)
              | (at_builtin; refine app1 rfl _ _ 25 _ 8 rfl Try.underlying25 info3 rfl (by decide) (by decide) HP.out rfl rfl HL.out ?_; intro v' w' h3 _; obtain ⟨A3, c3, hv, _⟩ := rd_slice h3.row_rd; rw [List.length_append, List.length_singleton] at hv; subst hv; have f1 := h3.at 1 rfl 1 _ rfl; have f2 := h3.at 1 rfl 2 _ rfl; have S5 := hid h3; clear h3))
            go_roundw
            case rel => exact ⟨m + 1, _, by go_num, by omega, by rw [HN.out]; exact ((S5.out.front 1 _ rfl).set_blk 2 _)⟩
            case measure => simp [intOf]; omega
          · have hcp : (grs frm l).count (sl[m] % (l.length : Int)) = 0 := List.count_eq_zero.2 hg
            have HCP := hid hcp
            have HN : Hid (lefts l frm (sl.take (m + 1)) = lefts l frm (sl.take m)) := by show _ = _; rw [take_snoc hlm, lefts_snoc, if_neg hg]; simp
            clear hg hcp
            go_wp2_with (first
              | (at_lookup; refine wpList_lookup_own_int _ rfl _ _ 226 rfl 3 3 .i64 law3 Try.underlying226 Try.underlying3 (zero3 _) w2.heap.size (grs frm l).length D rfl HO.out _ _ rfl hkey ?_; intro c' hat2 _; have hce : c' = ((grs frm l).count (sl[m] % (l.length : Int)) : Nat) := (by have := (HA.out (sl[m] % (l.length : Int))).symm.trans hat2; simpa using this.symm); clear hat2; have hcz : (c' == 0) = true := (by have := HCP.out; rw [beq_iff_eq]; omega); clear hce))
            go_roundw
            case rel => exact ⟨m + 1, _, by go_num, by omega, by rw [HN.out]; exact HS.out⟩
            case measure => simp [intOf]; omega
        · obtain rfl : m = sl.length := by omega
          rw [List.take_length] at HS
          obtain ⟨A2, c2, rfl, hA2, _⟩ := rd_slice (HS.out.front 1 _ rfl).row_rd
          have e0 := HS.out.at 0 rfl 0 _ rfl
          have e1 := HS.out.at 0 rfl 1 _ rfl
          have e2 := HS.out.at 0 rfl 2 _ rfl
          have e3 := HS.out.at 5 rfl 0 _ rfl
          have e4 := HS.out.at 5 rfl 1 _ rfl
          have e5 := HS.out.at 5 rfl 2 _ rfl
          go_wp2
          go_region
          all_goals
            go_wp2
            refine bodyPost_ret (v := .tuple #[v1, .agg #[.int .i64 frm, .int .i64 tt, .slice A2 (lefts l frm sl).length c2], .int .i64 0]) (by simp [results, Try.results28, go_sem, e0, e1, e2, e3, e4, e5]) rfl ⟨_, _, rfl, ?_⟩
            exact ((((((HS.out.front 5 _ rfl).set_blk 0 (.int .i64 frm)).set_blk 1 (.int .i64 tt)).set_blk 2 (.slice A2 (lefts l frm sl).length c2)).perm [4, 2] 6 (by decide) (by decide) (by simp))).drew

set_option maxHeartbeats 4000000 in
set_option maxRecDepth 100000 in
theorem begin_no (l : List Place) (v : Value) (frm tt : Int) (vs : Value) (w : World) (h : kPlaces.rd w l [v]) (h0 : 1 ≤ l.length) (h1 : l.length ≤ 1000) (hR : ∀ p ∈ l, PRight p)
    (f0 : 0 ≤ frm) (f1 : frm < 256) (t0 : 0 ≤ tt) (t1 : tt < 256) (hx : frm = tt ∨ l.any (hinders frm tt) = true) :
    Calls Try.prog 28 #[v, .int .i64 frm, .int .i64 tt, vs] w fun en w' => en = .returned (.tuple #[.slice none 0 0, .agg #[.int .i64 0, .int .i64 0, .slice none 0 0], .int .i64 100]) ∧ Below w.heap.size w w' := by
  have H := hid h
  have HM : Hid (∀ w', kPlaces.rd w' l [v] → Calls Try.prog 27 #[v, .int .i64 frm, .int .i64 tt] w' fun en w'' => en = .returned (.tuple #[.slice none 0 0, .slice none 0 0, .int .i64 100]) ∧ Below w'.heap.size w' w'') := fun w' hh => move_no l _ frm tt w' hh h0 h1 hR f0 f1 t0 t1 hx
  have S0 := hid ((Star.nil w).box2 w.heap.size rfl [.int .i64 0, .int .i64 0, .slice none 0 0] 55)
  clear h hR f0 f1 t0 t1 hx
  go_enter Try.func28, Try.ntmps28
  go_wp2_with (go_at_call 27; refine (HM.out _ (Kn.rd_below H.out (below1 _ _))).mono ?_; rintro e w1 ⟨rfl, hb⟩; have S1 := hid (S0.out.go hb); have e3 := S1.out.at 0 rfl 0 _ rfl; have e4 := S1.out.at 0 rfl 1 _ rfl; have e5 := S1.out.at 0 rfl 2 _ rfl)
  refine bodyPost_ret (v := .tuple #[.slice none 0 0, .agg #[.int .i64 0, .int .i64 0, .slice none 0 0], .int .i64 100]) (by simp [results, Try.results28, go_sem, e3, e4, e5]) rfl ⟨rfl, ?_⟩
  exact (((S1.out.set_blk 0 (.int .i64 0)).set_blk 1 (.int .i64 0)).set_blk 2 (.slice none 0 0)).below
end Go.Proofs.Ytihfikepfhcboaa
