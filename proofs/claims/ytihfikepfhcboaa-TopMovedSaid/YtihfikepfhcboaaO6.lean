/-
  Walks: Of at -1; holds17.
-/
import Derived.Test.YtihfikepfhcboaaO5
import Derived.Deep.RegionHeld3
namespace Go.Proofs.Ytihfikepfhcboaa
open Go.RowKit Go.Maps

set_option maxHeartbeats 400000 in
set_option maxRecDepth 100000 in
theorem of_neg (l : List Place) (v : Value) (w : World) (h : kPlaces.rd w l [v]) (h0 : 1 ≤ l.length) :
    Calls Try.prog 114 #[v, .int .i64 (-1)] w fun en w' => en = .returned (.tuple #[.agg #[.int .i64 0, .slice none 0 0], .bool false]) ∧ Below w.heap.size w w' := by
  obtain ⟨A, c, rfl, h1, h2, h3⟩ := rd_slice h
  have hl0 : ((l.length : Int) == 0) = false := by rw [beq_eq_false_iff_ne]; omega
  have S0 := hid ((Star.nil w).box2 w.heap.size rfl [.int .i64 0, .slice none 0 0] 214)
  clear h
  go_enter Try.func114, Try.ntmps114
  go_wp2
  refine bodyPost_ret (v := .tuple #[.agg #[.int .i64 0, .slice none 0 0], .bool false]) (by simp [results, Try.results114, go_sem]) rfl ⟨rfl, below1 _ _⟩

set_option maxHeartbeats 8000000 in
set_option maxRecDepth 100000 in
theorem holds_any (l : List Place) (vx vl : Value) (w : World) (hx : kSeats.rd w (seatsOf l) [vx]) (hl : kPlaces.rd w l [vl]) (h0 : 1 ≤ l.length) (h1 : l.length ≤ 100) (hR : ∀ p ∈ l, PRight p) :
    Calls Try.prog 25 #[vx, vl] w (Ret (.bool true) w) := by
  obtain ⟨b, v1, v2, rfl, _, e0, e1, g1, g2⟩ := kSeats_open hx
  obtain ⟨A, c, rfl, _⟩ := rd_slice g1
  obtain ⟨A', c', rfl, _⟩ := rd_slice g2
  have HX := hid hx
  have HLs := hid hl
  have H := hid g1
  have H2 := hid g2
  have HR := hid hR
  have E0 := hid e0
  have E1 := hid e1
  have hl1 : (seatsOf l).nodes.length = l.length := by simp [seatsOf]
  have hl2 : (seatsOf l).epochs.length = l.length := by simp [seatsOf]
  rw [hl1] at e0
  rw [hl2] at e1
  rw [hl1] at H E0
  rw [hl2] at H2 E1
  have bl := World.block_lt_of_cell? _ _ e0
  dsimp only at bl
  have HC1 := fun w => low17_any ((l.length : Int).toNat + 1) (l.length : Int) w (by omega) (by omega) (by omega)
  clear hx hl g1 g2 hR
  go_enter Try.func25, Try.ntmps25
  go_wp2_with (go_at_call 23; refine (HC1 _).mono ?_; rintro e w1 ⟨v1, rfl, h4⟩; have S1 := hid h4; have f0 := cell_below h4.below E0.out; clear h4)
  have S2 : Hid (Star [Ck.row 5 (.int .u8) v1 (leb l.length ++ ((l.take 0).map encPlace).flatten)] w w.heap.size w1) := by show Star _ _ _ _; simpa using S1.out
  go_loopw [5, 6, 8, 33] (fun vo _ _ i wr => ∃ k : Nat, i = .int .i64 k ∧ k ≤ l.length ∧ Hid (Star [Ck.row 5 (.int .u8) vo (leb l.length ++ ((l.take k).map encPlace).flatten)] w w.heap.size wr)) (fun _ _ _ i _ => l.length - (intOf i).toNat)
  case atStart => exact ⟨0, rfl, by omega, S2.out⟩
  case round =>
    clear S1 S2 HC1 f0
    obtain ⟨k, rfl, hk, HS⟩ := hrel
    by_cases hlt : k < l.length
    · have hpr := HR.out _ (List.getElem_mem hlt)
      have hk1 : k < (seatsOf l).nodes.length := by simp [seatsOf, hlt]
      have hk2 : k < (seatsOf l).epochs.length := by simp [seatsOf, hlt]
      obtain ⟨ad, cl, rfl, q1, q2, _⟩ := rd_getS H.out 1 rfl k hk1
      have hn : (seatsOf l).nodes[k] = l[k].nodes := by simp [seatsOf]
      rw [hn] at q1
      obtain ⟨A3, c3, he, q3⟩ : kInts.rd w l[k].nodes cl := q1
      subst he
      have q5 : kInts.rd w l[k].nodes [.slice A3 l[k].nodes.length c3] := ⟨A3, c3, rfl, q3⟩
      obtain ⟨ad2, rfl, q4⟩ := rd_get1 H2.out k hk2
      have hn2 : (seatsOf l).epochs[k] = l[k].ep := by simp [seatsOf]
      rw [hn2] at q4
      have q6 := q2 _ rfl
      rw [Nat.mul_one] at q6
      have G := hid q5
      have F1 := hid q6
      have F2 := hid q4
      have e2 := cell_below HS.out.below q6
      have e3 := cell_below HS.out.below q4
      have e4 := cell_below HS.out.below E0.out
      have e5 := cell_below HS.out.below E1.out
      have HLen : Hid ((leb l.length ++ ((l.take k).map encPlace).flatten).length ≤ 900000) := by
        have g1 := encPlaces_len (l := l.take k) fun p hp => HR.out p (List.mem_of_mem_take hp)
        have g2 := leb_length3 (n := l.length) (by omega)
        rw [List.length_take] at g1
        show _ ≤ _
        rw [List.length_append]; omega
      have HE := hid (encTake hlt)
      generalize hpre : leb l.length ++ ((l.take k).map encPlace).flatten = pre at HS HLen
      have HPre := hid hpre
      have g6 := leb_length3 (n := l[k].ep) (by have := hpr.e1; omega)
      have g7 := leb_length3 (n := l[k].nodes.length) (by have := hpr.l1; omega)
      have HL1 := hid (show (pre.length + (leb l[k].ep).length) * 1 ≤ 140737488355328 by have := HLen.out; omega)
      have HL2 := hid (show ((pre ++ leb l[k].ep).length + (leb (l[k].nodes.length : Int)).length) * 1 ≤ 140737488355328 by rw [List.length_append]; have := HLen.out; omega)
      have HC1 := fun w => low17_any (l[k].ep.toNat + 1) l[k].ep w (by have := hpr.e0; omega) (by have := hpr.e1; omega) (by omega)
      have HC2 := fun w => low17_any ((l[k].nodes.length : Int).toNat + 1) (l[k].nodes.length : Int) w (by omega) (by have := hpr.l1; omega) (by omega)
      have HPR := hid hpr
      have HS0 := hid HS.out.drew
      have HK : Hid (∀ w', Below w.heap.size w w' → w'.cell? ⟨b, 0, none⟩ = some (.slice (some ad) l.length c) ∧ w'.cell? ⟨b, 1, none⟩ = some (.slice (some ad2) l.length c') ∧ w'.cell? (ad.add k) = some (.slice A3 l[k].nodes.length c3) ∧ w'.cell? (ad2.add k) = some (.int .i64 l[k].ep)) := fun w' hb => ⟨cell_below hb E0.out, cell_below hb E1.out, cell_below hb F1.out, cell_below hb F2.out⟩
      clear q2 q3 q4 q5 q6 hn hn2 hk1 hk2 hpr hpre g6 g7
      go_wp2
      go_cut [5] (fun v5 wc => Hid (Star [Ck.row 5 (.int .u8) v5 (pre ++ leb l[k].ep ++ leb l[k].nodes.length)] w w.heap.size wc))
      case first =>
        go_region_held3 (fun w' => w'.cell? ⟨b, 0, none⟩ = some (.slice (some ad) l.length c) ∧ w'.cell? ⟨b, 1, none⟩ = some (.slice (some ad2) l.length c') ∧ w'.cell? (ad.add k) = some (.slice A3 l[k].nodes.length c3) ∧ w'.cell? (ad2.add k) = some (.int .i64 l[k].ep)) (first | exact HK.out _ S4.out.below | exact HK.out _ S3.out.below | exact HK.out _ S2.out.below | exact HK.out _ S1.out.below | exact HK.out _ HS0.out.below) (first
          | (go_at_call 23; (with_reducible show Calls Try.prog 23 #[Value.int .i64 l[k].ep] _ _); refine (HC1 _).mono ?_; rintro e w3 ⟨va, rfl, ha⟩; have S1 := hid ((HS0.out.frame ha).front 1 _ rfl); have x4 := cell_below S1.out.below E0.out; have x2 := cell_below S1.out.below F1.out; clear ha)
          | (go_at_call 23; (with_reducible show Calls Try.prog 23 #[Value.int .i64 (l[k].nodes.length : Int)] _ _); refine (HC2 _).mono ?_; rintro e w5 ⟨vc, rfl, hc⟩; have S3 := hid ((S2.out.frame hc).front 1 _ rfl); clear hc)
          | (refine appS_step rfl _ _ 22 _ 1 rfl Try.underlying22 info5 rfl (by decide) S1.out rfl rfl (S1.out.front 1 _ rfl).row_rd HL1.out ?_; intro vb w4 hb _ _; have S2 := hid (hb.perm [0] 2 (by decide) (by decide) (by simp)); have y4 := cell_below S2.out.below E0.out; have y2 := cell_below S2.out.below F1.out; clear hb)
          | (refine appS_step rfl _ _ 22 _ 1 rfl Try.underlying22 info5 rfl (by decide) S3.out rfl rfl (S3.out.front 1 _ rfl).row_rd HL2.out ?_; intro vd w6 hd _ _; have S4 := hid (hd.perm [0] 2 (by decide) (by decide) (by simp)); clear hd))
        all_goals
          go_wp2
          go_meet
          case rel => exact S4.out
      case rest =>
        have S5 := hid hcut.out
        have z4 := cell_below hcut.out.below E0.out
        have z2 := cell_below hcut.out.below F1.out
        clear hcut HS HS0 HL1 HL2 HC1 HC2 e2 e3 e4 e5
        go_wp2
        go_loopw [5, 8, 64] (fun v5 _ j wr' => ∃ m : Nat, j = .int .i64 m ∧ m ≤ l[k].nodes.length ∧ Hid (Star [Ck.row 5 (.int .u8) v5 (pre ++ leb l[k].ep ++ leb l[k].nodes.length ++ encNums (l[k].nodes.take m))] w w.heap.size wr')) (fun _ _ j _ => l[k].nodes.length - (intOf j).toNat)
        case atStart => exact ⟨0, rfl, by omega, by show Star _ _ _ _; simpa [encNums] using S5.out⟩
        case round =>
          clear S5 z4 z2
          obtain ⟨m, rfl, hm, HS⟩ := hrel
          by_cases hlm : m < l[k].nodes.length
          · obtain ⟨ad3, rfl, hc⟩ := rd_get1 (Kn.rd_below G.out HS.out.below) m hlm
            have x0 := HPR.out.n0 _ (List.getElem_mem hlm)
            have x1 := HPR.out.n1 _ (List.getElem_mem hlm)
            have HLx : Hid (((pre ++ leb l[k].ep ++ leb l[k].nodes.length ++ encNums (l[k].nodes.take m)).length + (leb l[k].nodes[m]).length) * 1 ≤ 140737488355328) := by
              have g1 := encNums_len (l := l[k].nodes.take m) fun x hx => by have := HPR.out.n1 x (List.mem_of_mem_take hx); omega
              have g2 := leb_length3 (n := l[k].ep) (by have := HPR.out.e1; omega)
              have g3 := leb_length3 (n := l[k].nodes.length) (by have := HPR.out.l1; omega)
              have g4 := leb_length3 (n := l[k].nodes[m]) (by omega)
              have := HLen.out
              have := HPR.out.l1
              rw [List.length_take] at g1
              show _ ≤ _
              simp only [List.length_append]; omega
            have HEn := hid (encNums_take hlm)
            have q3 := HPR.out.l1
            have HC := fun w => low17_any (l[k].nodes[m].toNat + 1) l[k].nodes[m] w (by omega) (by omega) (by omega)
            go_wp2_with (first
              | (go_at_call 23; refine (HC _).mono ?_; rintro e w3 ⟨va, rfl, ha⟩; have S1 := hid ((HS.out.frame ha).front 1 _ rfl); clear ha)
              | (at_builtin; refine appS rfl _ _ 22 _ 1 rfl Try.underlying22 info5 rfl (by decide) S1.out rfl rfl (S1.out.front 1 _ rfl).row_rd HLx.out ?_; intro vb w4 hb _ _; have S3 := hid (hb.perm [0] 2 (by decide) (by decide) (by simp)); clear hb))
            go_roundw
            case rel => exact ⟨m + 1, by go_num, by omega, by rw [HEn.out, ← List.append_assoc]; exact S3.out⟩
            case measure => simp [intOf]; omega
          · obtain rfl : m = l[k].nodes.length := by omega
            have S6 : Hid (Star [Ck.row 5 (.int .u8) u5 (leb l.length ++ ((l.take (k + 1)).map encPlace).flatten)] w w.heap.size wr) := by
              show Star _ _ _ _
              rw [HE.out, ← List.append_assoc, HPre.out]
              have := HS.out
              rw [List.take_length] at this
              simpa only [encPlace, List.append_assoc] using this
            clear HS
            go_wp2
            go_roundw
            case rel => exact ⟨k + 1, by go_num, by omega, S6.out⟩
            case measure => simp [intOf]; omega
    · obtain rfl : k = l.length := by omega
      rw [List.take_length] at HS
      have S1 : Hid (Star [Ck.row 5 (.int .u8) u5 (encPlaces l)] w w.heap.size wr) := HS.out
      clear HS
      have HLe : Hid ((encPlaces l ++ [0]).length ≤ 1000000) := by
        have g1 := encPlaces_len (l := l) fun p hp => HR.out p hp
        have g2 := leb_length3 (n := l.length) (by omega)
        show _ ≤ _
        simp only [encPlaces, List.length_append, List.length_singleton]; omega
      have HT : Hid (∀ (w : World) (va vb : Value), kPlaces.rd w l [va] → kPlaces.rd w l [vb] → Calls Try.prog 30 #[va, vb] w (Ret (.bool true) w)) := fun w va vb ha hb => by
        have := places17_any l l va vb w ha hb
        rwa [decide_eq_true rfl] at this
      have f0 := cell_below S1.out.below E0.out
      go_wp2_with (first
        | (go_at_call 111; refine (pBytes_any l vl _ (Kn.rd_below HLs.out S1.out.below) h0 (by omega) HR.out).mono ?_; rintro e w2 ⟨v9, rfl, h2⟩; have S2 := hid (S1.out.frame h2); clear h2)
        | (go_at_call 112; (with_reducible show Calls Try.prog 112 #[v9] _ _); refine (pRead_any l (encPlaces l) [] v9 _ S2.out.row_rd (by have := HLe.out; rw [List.length_append] at this; omega) (by simp) h0 (by omega) HR.out).mono ?_; rintro e w3 ⟨q3, _⟩; obtain ⟨v11, rfl, h3⟩ := q3 rfl; have S3 := hid (S2.out.frame h3); clear h3 q3)
        | (go_at_call 113; refine (places_any l _ _ (Kn.rd_below HX.out S3.out.below) (by omega) HR.out).mono ?_; rintro e w4 ⟨v86, rfl, h4⟩; have S4 := hid (S3.out.frame h4); clear h4)
        | (go_at_call 30; (with_reducible show Calls Try.prog 30 #[vl, v86] _ _); refine (HT.out _ _ _ (Kn.rd_below HLs.out S4.out.below) S4.out.row_rd).mono ?_; rintro e w5 ⟨rfl, hb5⟩; have S5 := hid (S4.out.go hb5); have d0 := row_str (S5.out.front 2 _ rfl); have d1 := row_str (S5.out.front 3 _ rfl))
        | (go_at_call 30; (with_reducible show Calls Try.prog 30 #[v11, vl] _ _); refine (HT.out _ _ _ (S5.out.front 1 _ rfl).row_rd (Kn.rd_below HLs.out S5.out.below)).mono ?_; rintro e w6 ⟨rfl, hb6⟩; have S6 := hid ((S5.out.go hb6).nums 5 .u8 [] (by simp)))
        | (at_builtin; refine appS rfl _ _ 22 _ 1 rfl Try.underlying22 info5 rfl (by decide) S6.out rfl rfl (S6.out.front 3 _ rfl).row_rd (by have := HLe.out; rw [List.length_append] at this; simp; omega) ?_; intro v7 w7 h7 _ _; rw [List.nil_append] at h7; have S7 := hid ((h7.perm [0] 5 (by decide) (by decide) (by simp)).nums 5 .u8 [0] (by decide)); have S8 := hid (S7.out.front 1 _ rfl); clear h7)
        | (at_builtin; refine appS rfl _ _ 22 _ 1 rfl Try.underlying22 info5 rfl (by decide) S8.out rfl rfl (S8.out.front 1 _ rfl).row_rd (by have := HLe.out; rw [List.length_append] at this; simp; omega) ?_; intro v9b w9 h9 _ _; have S9 := hid (h9.perm [0] 2 (by decide) (by decide) (by simp)); clear h9)
        | (go_at_call 112; (with_reducible show Calls Try.prog 112 #[v9b] _ _); refine (pRead_any l (encPlaces l ++ [0]) [0] v9b _ S9.out.row_rd HLe.out rfl h0 (by omega) HR.out).mono ?_; rintro e w10 ⟨_, q10⟩; obtain ⟨v13, rfl, hb10⟩ := q10 (by simp); have S10 := hid (S9.out.below.trans (hb10.mono S9.out.size)); have f10 := cell_below S10.out E0.out))
      have HB0 := hid S10
      have hl0 : ((l.length : Int) == 0) = false := by rw [beq_eq_false_iff_ne]; omega
      clear S1 S2 S3 S4 S5 S6 S7 S8 S9 S10 f10 d0 d1 f0 q10 hb10 hb5 hb6 HLe HT
      go_loopw [15, 16, 17, 18, 19] (fun i _ _ _ _ wr => ∃ k : Nat, i = .int .i64 k ∧ k ≤ 41 ∧ Hid (Below w.heap.size w wr)) (fun i _ _ _ _ _ => 41 - (intOf i).toNat)
      case atStart => exact ⟨0, rfl, by omega, HB0⟩
      case round =>
        clear HB0
        obtain ⟨k, rfl, hk, HB⟩ := hrel
        by_cases hlt : k < 41
        · have hj : k % l.length < l.length := Nat.mod_lt _ (by omega)
          have hq : (k : Int).tmod (l.length : Int) = ((k % l.length : Nat) : Int) := by
            rw [Int.tmod_eq_emod_of_nonneg (by omega), Int.natCast_emod]
          generalize hjj : k % l.length = j at hj hq
          have hnk : (k : Int) % (l.length : Int) = (j : Int) := by rw [← hjj, Int.natCast_emod]
          have hpr := HR.out _ (List.getElem_mem hj)
          have hk1 : j < (seatsOf l).nodes.length := by simp [seatsOf, hj]
          have hk2 : j < (seatsOf l).epochs.length := by simp [seatsOf, hj]
          obtain ⟨ad, cl, rfl, q1, q2, _⟩ := rd_getS H.out 1 rfl j hk1
          have hn : (seatsOf l).nodes[j] = l[j].nodes := by simp [seatsOf]
          rw [hn] at q1
          obtain ⟨A3, c3, he, q3⟩ : kInts.rd w l[j].nodes cl := q1
          subst he
          have q5 : kInts.rd w l[j].nodes [.slice A3 l[j].nodes.length c3] := ⟨A3, c3, rfl, q3⟩
          obtain ⟨ad2, rfl, q4⟩ := rd_get1 H2.out j hk2
          have hn2 : (seatsOf l).epochs[j] = l[j].ep := by simp [seatsOf]
          rw [hn2] at q4
          have q6 := q2 _ rfl
          rw [Nat.mul_one] at q6
          have G := hid q5
          have F1 := hid q6
          have F2 := hid q4
          have e4 := cell_below HB.out E0.out
          have HOf : Hid (Calls Try.prog 114 #[vl, .int .i64 (k : Int)] wr fun en w' => ∃ v, en = .returned (.tuple #[.agg #[.int .i64 l[j].ep, v], .bool true]) ∧ Star [Ck.row 3 (.int .i64) v l[j].nodes] wr wr.heap.size w') :=
            of_any l vl (k : Int) j wr (Kn.rd_below HLs.out HB.out) (by omega) (by omega) hj hnk (Nat.le_trans hpr.l1 (by decide))
          have hbx : (l[j].ep != l[j].ep) = false := by simp
          clear q2 q3 q4 q5 q6 hn hn2 hk1 hk2 hpr hnk hjj
          go_wp2_with (go_at_call 114; refine HOf.out.mono ?_; rintro e w2 ⟨v2, rfl, h2⟩; obtain ⟨A5, c5, rfl, _⟩ := rd_slice h2.row_rd; have S1 := hid ((((Star.nil w).go HB.out).frame h2).box2 w2.heap.size rfl [.int .i64 l[j].ep, .slice A5 l[j].nodes.length c5] 214); have S0 := hid (((Star.nil w).go HB.out).frame h2); have f4 := cell_below S0.out.below E0.out; have f5 := cell_below S0.out.below E1.out; have f2 := cell_below S0.out.below F1.out; have f3 := cell_below S0.out.below F2.out; have l2 := World.block_lt_of_cell? _ _ f2; have l3 := World.block_lt_of_cell? _ _ f3; have l4 := World.block_lt_of_cell? _ _ f4; dsimp only at l4; clear h2)
          have HC := hid (quiet29 (S1.out.front 1 _ rfl).row_rd (Kn.rd_below G.out S1.out.below) (decide_eq_true rfl))
          go_quiet ((go_at_call 29; exact Calls.quiet_of (HC.out _)))
          have S2 := hid (S1.out.drewN nq)
          clear S1 S0
          go_wp2
          go_loopw [19] (fun i wr' => ∃ q : Nat, i = .int .i64 q ∧ q ≤ 9 ∧ Hid (Star [Ck.blk w2.heap.size [.int .i64 l[j].ep, .slice A5 l[j].nodes.length c5] 214, Ck.row 3 (.int .i64) (.slice A5 l[j].nodes.length c5) l[j].nodes] w w.heap.size wr')) (fun i _ => 9 - (intOf i).toNat)
          case atStart => exact ⟨0, rfl, by omega, S2.out⟩
          case round =>
            clear S2 f2 f3 f4 f5
            obtain ⟨q, rfl, hq9, HS⟩ := hrel
            by_cases hlq : q < 9
            · have e0 := HS.out.at 0 rfl 0 _ rfl
              have e1 := HS.out.at 0 rfl 1 _ rfl
              have hbq : (idx q l[j].nodes 0 != idx q l[j].nodes 0) = false := by simp
              have hjn : j < (seatsOf l).nodes.length := by simp [seatsOf, hj]
              have HH : Hid (∀ w', kSeats.rd w' (seatsOf l) [.pointer (some ⟨b, 0, none⟩)] → Calls Try.prog 26 #[.pointer (some ⟨b, 0, none⟩), .int .i64 j, .int .i64 q] w' (RetW (.int .i64 (idx q l[j].nodes 0)) w')) := fun w' hh => by
                have := has_any (seatsOf l) _ j q w' hh hjn
                have hn : (seatsOf l).nodes[j] = l[j].nodes := by simp [seatsOf]
                rwa [hn] at this
              clear hjn
              go_wp2_with (first
                | (go_at_call 115; refine (pIndex_any l[j] _ (q : Int) _ (Kn.rd_of (kPlace_mk (p := l[j]) (row_rep (HS.out.front 1 _ rfl).head)))).mono ?_; rintro e w3 ⟨rfl, hb3⟩; have S3 := hid (HS.out.go hb3))
                | (go_at_call 26; refine (HH.out _ (Kn.rd_below HX.out S3.out.below)).mono ?_; rintro e w4 ⟨rfl, rfl⟩))
              go_roundw
              case rel => exact ⟨q + 1, by go_num, by omega, S3.out⟩
              case measure => simp [intOf]; omega
            · obtain rfl : q = 9 := by omega
              have HBn := hid HS.out.below
              go_wp2
              go_roundw
              case rel => exact ⟨k + 1, by go_num, by omega, HBn⟩
              case measure => simp [intOf]; omega
        · obtain rfl : k = 41 := by omega
          go_wp2_with (go_at_call 114; refine (of_neg l vl _ (Kn.rd_below HLs.out HB.out) h0).mono ?_; rintro e w2 ⟨rfl, hb⟩; have S2 := hid (((Star.nil w).go HB.out).go hb))
          go_ret
          exact ⟨rfl, bup S2.out.below (below1 _ _)⟩
end Go.Proofs.Ytihfikepfhcboaa
