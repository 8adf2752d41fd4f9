/-
  Walk: placements of bytes.
-/
import Derived.Test.YtihfikepfhcboaaN2
import Derived.Deep.RegionLaw
import Derived.Deep.DeepCutAuto
namespace Go.Proofs.Ytihfikepfhcboaa
open Go.RowKit

theorem drop_more {α : Type} {l a b : List α} {k : Nat} (hk : k ≤ l.length) (h : l.drop k = a ++ b) : l.drop (k + a.length) = b ∧ k + a.length ≤ l.length := by
  have h1 := congrArg List.length h
  rw [List.length_drop, List.length_append] at h1
  exact ⟨by rw [← List.drop_drop, h, List.drop_left], by omega⟩

theorem encPlace_drop {ps : List Place} {k : Nat} (hk : k < ps.length) : ((ps.drop k).map encPlace).flatten = leb ps[k].ep ++ (leb ps[k].nodes.length ++ (encNums ps[k].nodes ++ ((ps.drop (k + 1)).map encPlace).flatten)) := by
  rw [List.drop_eq_getElem_cons hk, List.map_cons, List.flatten_cons, encPlace]
  simp only [List.append_assoc]
theorem encNums_drop {l : List Int} {k : Nat} (hk : k < l.length) : encNums (l.drop k) = leb l[k] ++ encNums (l.drop (k + 1)) := by
  rw [List.drop_eq_getElem_cons hk, encNums, List.map_cons, List.flatten_cons]; rfl

set_option maxHeartbeats 8000000 in
set_option maxRecDepth 100000 in
theorem pRead_any (ps : List Place) (l post : List Int) (v : Value) (w : World) (h : kBytes.rd w l [v]) (hl : l.length ≤ 1000000) (he : l = encPlaces ps ++ post) (h0 : 1 ≤ ps.length) (h1 : ps.length ≤ 1000) (hR : ∀ p ∈ ps, PRight p) :
    Calls Try.prog 112 #[v] w fun en w' => (post = [] → ∃ v, en = .returned (.tuple #[v, .int .i64 0]) ∧ Star [Ck.row 214 kPlace v ps] w w.heap.size w') ∧
      (post ≠ [] → ∃ v, en = .returned (.tuple #[v, .int .i64 100]) ∧ Below w.heap.size w w') := by
  obtain ⟨A, c, rfl, h2, _⟩ := rd_slice h
  have H := hid h
  have HR := hid hR
  have S0 := hid ((((Star.nil w).box [.slice A l.length c] 22).box2 (w.heap.size + 1) (by simp) [.int .i64 0] 3).box2 (w.heap.size + 1 + 1) (by simp) [.bool false] 4)
  have HE := hid he
  have HD : Hid (l.drop 0 = leb ps.length ++ (((ps.drop 0).map encPlace).flatten ++ post)) := by show _ = _; rw [he]; simp [encPlaces]
  clear h hR he
  go_enter Try.func112, Try.ntmps112
  go_wp2_with fail
  refine (next_any l _ (.slice A l.length c) 0 ps.length 1000 w.heap.size (w.heap.size + 1) (w.heap.size + 1 + 1) [] w _ w.heap.size (S0.out.perm [1, 0, 2] 3 (by decide) (by decide) (by simp)) (Kn.rd_below H.out S0.out.below) hl (by omega) (by omega) (by omega) (by omega) HD.out).mono ?_
  rintro e w1 ⟨rfl, h3⟩
  obtain ⟨hd1, ha1⟩ := drop_more (Nat.zero_le _) HD.out
  rw [Nat.zero_add] at hd1 ha1
  have S1 := hid h3
  have HD1 := hid hd1
  have HA1 := hid ha1
  clear h3 hd1 ha1 HD S0
  go_wp2
  go_loopw [7, 8, 12] (fun vo _ i wr => ∃ k at_ : Nat, i = .int .i64 k ∧ k ≤ ps.length ∧ Hid (at_ ≤ l.length ∧ l.drop at_ = ((ps.drop k).map encPlace).flatten ++ post) ∧
    Hid (Star [Ck.blk (w.heap.size + 1) [.int .i64 at_] 3, Ck.blk (w.heap.size + 1 + 1) [.bool false] 4, Ck.blk w.heap.size [.slice A l.length c] 22, Ck.row 214 kPlace vo (ps.take k)] w w.heap.size wr)) (fun _ _ i _ => ps.length - (intOf i).toNat)
  case atStart => exact ⟨0, (leb ps.length).length, rfl, by omega, ⟨HA1.out, HD1.out⟩, by show Star _ _ _ _; simpa using (S1.out.nilrow 214 kPlace).perm [1, 2, 3, 0] 4 (by decide) (by decide) (by simp)⟩
  case round =>
    clear S1 HD1 HA1
    obtain ⟨k, at_, rfl, hk, HD, HS⟩ := hrel
    by_cases hlt : k < ps.length
    · have hpr := HR.out _ (List.getElem_mem hlt)
      have q0 := hpr.e0
      have q1 := hpr.e1
      have q2 := hpr.l0
      have q3 := hpr.l1
      have HPR := hid hpr
      have D1 : Hid (l.drop at_ = leb ps[k].ep ++ (leb ps[k].nodes.length ++ (encNums ps[k].nodes ++ (((ps.drop (k + 1)).map encPlace).flatten ++ post)))) := by
        show _ = _
        rw [HD.out.2, encPlace_drop hlt]; simp only [List.append_assoc]
      have D2 := hid (drop_more HD.out.1 D1.out)
      have D3 := hid (drop_more D2.out.2 D2.out.1)
      clear hpr
      go_wp2_with fail
      refine (next_any l _ (.slice A l.length c) at_ ps[k].ep 1099511627776 w.heap.size (w.heap.size + 1) (w.heap.size + 1 + 1) _ w _ w.heap.size HS.out (Kn.rd_below H.out HS.out.below) hl (by omega) (by omega) (by omega) (by omega) D1.out).mono ?_
      rintro e w2 ⟨rfl, h3⟩
      rw [← Int.natCast_add] at h3
      have S2 := hid (h3.box [.int .i64 ps[k].ep, .slice none 0 0] 214)
      clear h3 HS
      go_wp2_with fail
      refine (next_any l _ (.slice A l.length c) (at_ + (leb ps[k].ep).length) ps[k].nodes.length 255 w.heap.size (w.heap.size + 1) (w.heap.size + 1 + 1) _ w _ w.heap.size (S2.out.perm [1, 2, 3, 0, 4] 5 (by decide) (by decide) (by simp)) (Kn.rd_below H.out S2.out.below) hl (by omega) (by omega) (by omega) (by omega) D2.out.1).mono ?_
      rintro e w3 ⟨rfl, h3⟩
      rw [← Int.natCast_add] at h3
      have S3 := hid h3
      clear h3 S2
      go_wp2
      go_loopw [19] (fun j wr' => ∃ (m at2 : Nat) (vN : Value), j = .int .i64 m ∧ m ≤ ps[k].nodes.length ∧ Hid (at2 ≤ l.length ∧ l.drop at2 = encNums (ps[k].nodes.drop m) ++ (((ps.drop (k + 1)).map encPlace).flatten ++ post)) ∧
        Hid (Star [Ck.blk (w.heap.size + 1) [.int .i64 at2] 3, Ck.blk (w.heap.size + 1 + 1) [.bool false] 4, Ck.blk w.heap.size [.slice A l.length c] 22, Ck.blk w2.heap.size [.int .i64 ps[k].ep, vN] 214, Ck.row 3 (.int .i64) vN (ps[k].nodes.take m), Ck.row 214 kPlace u7 (ps.take k)] w w.heap.size wr')) (fun j _ => ps[k].nodes.length - (intOf j).toNat)
      case atStart => exact ⟨0, _, _, rfl, by omega, ⟨D3.out.2, D3.out.1⟩, (S3.out.nilrow 3 (.int .i64)).perm [1, 2, 3, 4, 0, 5] 6 (by decide) (by decide) (by simp)⟩
      case round =>
        clear S3 D1 D2 D3
        obtain ⟨m, at2, vN, rfl, hm, HD2, HS⟩ := hrel
        by_cases hlm : m < ps[k].nodes.length
        · have D4 : Hid (l.drop at2 = leb ps[k].nodes[m] ++ (encNums (ps[k].nodes.drop (m + 1)) ++ (((ps.drop (k + 1)).map encPlace).flatten ++ post))) := by
            show _ = _
            rw [HD2.out.2, encNums_drop hlm]; simp only [List.append_assoc]
          have D5 := hid (drop_more HD2.out.1 D4.out)
          have x0 := HPR.out.n0 _ (List.getElem_mem hlm)
          have x1 := HPR.out.n1 _ (List.getElem_mem hlm)
          have e0 := HS.out.at 3 rfl 0 _ rfl
          have e1 := HS.out.at 3 rfl 1 _ rfl
          have hbl := (HS.out.front 3 _ rfl).blk_lt
          have HC := hid (next_any l _ (.slice A l.length c) at2 ps[k].nodes[m] 256 w.heap.size (w.heap.size + 1) (w.heap.size + 1 + 1) _ w _ w.heap.size HS.out.drew (Kn.rd_below H.out HS.out.drew.below) hl (by omega) (by omega) (by omega) (by omega) D4.out)
          have HL : Hid (((ps[k].nodes.take m).length + 1) * 8 ≤ 140737488355328) := by show _ ≤ _; rw [List.length_take]; omega
          go_wp2
          go_region_law (first
            | (go_simp; go_at_call 215; refine HC.out.mono ?_; rintro e w4 ⟨rfl, h3⟩; rw [← Int.natCast_add] at h3; have f1 := h3.at 3 rfl 1 _ rfl; have hbl2 := (h3.front 3 _ rfl).blk_lt; have S4 := hid ((h3.perm [4, 0, 1, 2, 3, 5] 6 (by decide) (by decide) (by simp)).inn1 .i64 ps[k].nodes[m]); clear h3)
            | (refine app1_step rfl _ _ 25 _ 8 rfl Try.underlying25 info3 rfl (by decide) (by decide) S4.out rfl rfl HL.out ?_; intro v' w' h3 _; obtain ⟨A1, c1, hv, _⟩ := rd_slice h3.row_rd; rw [List.length_append, List.length_singleton] at hv; subst hv; have f2 := h3.at 4 rfl 1 _ rfl; have S5 := hid h3; clear h3))
          all_goals
            have S6 : Hid (∀ x, x = Value.slice A1 ((ps[k].nodes.take m).length + 1) c1 → Star [Ck.blk (w.heap.size + 1) [.int .i64 ((at2 + (leb ps[k].nodes[m]).length : Nat) : Int)] 3, Ck.blk (w.heap.size + 1 + 1) [.bool false] 4, Ck.blk w.heap.size [.slice A l.length c] 22, Ck.blk w2.heap.size [.int .i64 ps[k].ep, x] 214, Ck.row 3 (.int .i64) x (ps[k].nodes.take (m + 1)), Ck.row 214 kPlace u7 (ps.take k)] w w.heap.size (w'.setCell ⟨w2.heap.size, 1, none⟩ x)) := by
              intro x hx
              subst hx
              rw [List.take_succ_eq_append_getElem hlm]
              exact ((S5.out.perm [4, 0, 1, 2, 3, 5] 6 (by decide) (by decide) (by simp)).set_blk 1 _).perm [2, 3, 4, 0, 1, 5] 6 (by decide) (by decide) (by simp)
            clear HS HC S4 S5
            go_wp2
            go_roundw
            case rel => exact ⟨m + 1, _, _, by go_num, by omega, ⟨D5.out.2, D5.out.1⟩, S6.out _ (by simp; omega)⟩
            case measure => simp [intOf]; omega
        · obtain rfl : m = ps[k].nodes.length := by omega
          rw [List.take_length] at HS
          obtain ⟨A2, c2, rfl, _⟩ := rd_slice (HS.out.front 4 _ rfl).row_rd
          have e0 := HS.out.at 3 rfl 0 _ rfl
          have e1 := HS.out.at 3 rfl 1 _ rfl
          have e2 := HS.out.at 1 rfl 0 _ rfl
          have HP := hid (((HS.out.perm [4, 5, 0, 1, 2] 6 (by decide) (by decide) (by simp)).say (c' := Ck.inn kPlace [⟨ps[k].ep, ps[k].nodes⟩] [.int .i64 ps[k].ep, .slice A2 ps[k].nodes.length c2]) (inn_place ps[k].ep)).swap)
          have HL : Hid (((ps.take k).length + 1) * 32 ≤ 140737488355328) := by show _ ≤ _; rw [List.length_take]; omega
          have HD3 : Hid (l.drop at2 = ((ps.drop (k + 1)).map encPlace).flatten ++ post) := by
            show _ = _
            rw [HD2.out.2, List.drop_length]; rfl
          have HAt := hid HD2.out.1
          clear HS HD2
          go_wp2_with (at_builtin; refine app1 rfl _ _ 57 _ 32 rfl Try.underlying57 info214 rfl (by decide) (by decide) HP.out rfl rfl HL.out ?_; intro v' w' h3 _; have f2 := h3.at 2 rfl 0 _ rfl; have S5 := hid h3; clear h3)
          go_roundw
          case rel => exact ⟨k + 1, at2, by go_num, by omega, ⟨HAt.out, HD3.out⟩, by show Star _ _ _ _; rw [List.take_succ_eq_append_getElem hlt]; exact S5.out.perm [1, 2, 3, 0] 4 (by decide) (by decide) (by simp)⟩
          case measure => simp [intOf]; omega
    · obtain rfl : k = ps.length := by omega
      have hpost : l.drop at_ = post := by have := HD.out.2; rw [List.drop_length] at this; exact this
      have hat := HD.out.1
      rw [List.take_length] at HS
      have e0 := HS.out.at 0 rfl 0 _ rfl
      have e1 := HS.out.at 1 rfl 0 _ rfl
      have e2 := HS.out.at 2 rfl 0 _ rfl
      have HP := hid hpost
      have hlen := congrArg List.length hpost
      rw [List.length_drop] at hlen
      have S7 := hid (HS.out.perm [3] 4 (by decide) (by decide) (by simp))
      have HB := hid HS.out.below
      have HRd := hid ((HS.out.front 3 _ rfl).row_rd)
      clear hpost HS HD
      by_cases hx : at_ = l.length
      · have hb : ((at_ : Int) != (l.length : Int)) = false := by rw [bne_eq_false_iff_eq, hx]
        have hpn : post = [] := List.eq_nil_of_length_eq_zero (by omega)
        have HX := hid hx
        have HPn := hid hpn
        clear hx hlen hpn
        go_wp2_with (go_at_call 118; refine (all_any ps _ _ HRd.out h0 h1 HR.out).mono ?_; rintro e w4 ⟨rfl, hb4⟩; have S8 := hid (S7.out.go hb4); clear hb4)
        go_ret2
        exact ⟨fun _ => ⟨_, rfl, S8.out⟩, fun hn => absurd HPn.out hn⟩
      · have hb : ((at_ : Int) != (l.length : Int)) = true := by rw [bne_iff_ne]; omega
        have hpn : post ≠ [] := fun e => hx (by rw [e] at hlen; simp at hlen; omega)
        have HPn := hid hpn
        clear hx hlen hpn
        go_wp2
        go_ret2
        exact ⟨fun hn => absurd hn HPn.out, fun _ => ⟨_, rfl, HB.out⟩⟩
end Go.Proofs.Ytihfikepfhcboaa
