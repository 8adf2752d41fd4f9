/-
  Walk: the bytes of placements.
-/
import Derived.Test.YtihfikepfhcboaaM9
import Derived.Deep.RegionWith
import Derived.Deep.DeepCutAuto
namespace Go.Proofs.Ytihfikepfhcboaa
open Go.RowKit

theorem cell_below {w w' : World} (hb : Below w.heap.size w w') {p : Addr} {v : Value} (h : w.cell? p = some v) : w'.cell? p = some v := (Same.of_below' (F := Any) hb).cell trivial h

theorem u64_in {x : Int} (h0 : 0 ≤ x) (h1 : x < 1099511627776000) : IntKind.u64.wrap x = x := by simp [IntKind.wrap, IntKind.bits]; omega

def encNums (l : List Int) : List Int := (l.map leb).flatten
def encPlace (p : Place) : List Int := leb p.ep ++ leb p.nodes.length ++ encNums p.nodes
def encPlaces (l : List Place) : List Int := leb l.length ++ (l.map encPlace).flatten

theorem encNums_snoc (l : List Int) (x : Int) : encNums (l ++ [x]) = encNums l ++ leb x := by simp [encNums]
theorem encNums_take {l : List Int} {k : Nat} (hk : k < l.length) : encNums (l.take (k + 1)) = encNums (l.take k) ++ leb l[k] := by
  rw [List.take_succ_eq_append_getElem hk, encNums_snoc]
theorem encNums_len {l : List Int} (h : ∀ x ∈ l, x < 2097152) : (encNums l).length ≤ 3 * l.length := by
  induction l with
  | nil => simp [encNums]
  | cons x l ih =>
    have h1 := ih fun y hy => h y (List.mem_cons_of_mem _ hy)
    have h2 := leb_length3 (h x List.mem_cons_self)
    simp only [encNums, List.map_cons, List.flatten_cons, List.length_append, List.length_cons] at h1 ⊢
    omega
theorem encPlace_len {p : Place} (h : PRight p) : (encPlace p).length ≤ 800 := by
  have h1 := encNums_len (l := p.nodes) fun x hx => by have := h.n1 x hx; omega
  have h2 := leb_length3 (n := p.ep) (by have := h.e1; omega)
  have h3 := leb_length3 (n := p.nodes.length) (by have := h.l1; omega)
  have := h.l1
  simp only [encPlace, List.length_append]
  omega
theorem encPlaces_len {l : List Place} (h : ∀ p ∈ l, PRight p) : ((l.map encPlace).flatten).length ≤ 800 * l.length := by
  induction l with
  | nil => simp
  | cons x l ih =>
    have h1 := ih fun y hy => h y (List.mem_cons_of_mem _ hy)
    have h2 := encPlace_len (h x List.mem_cons_self)
    simp only [List.map_cons, List.flatten_cons, List.length_append, List.length_cons]
    omega
theorem encTake {l : List Place} {k : Nat} (hk : k < l.length) : ((l.take (k + 1)).map encPlace).flatten = ((l.take k).map encPlace).flatten ++ encPlace l[k] := by
  rw [List.take_succ_eq_append_getElem hk]
  simp only [List.map_append, List.flatten_append, List.map_cons, List.map_nil, List.flatten_cons, List.flatten_nil, List.append_nil]

set_option maxHeartbeats 4000000 in
set_option maxRecDepth 100000 in
theorem pBytes_any (l : List Place) (v : Value) (w : World) (h : kPlaces.rd w l [v]) (h0 : 1 ≤ l.length) (h1 : l.length ≤ 1000) (hR : ∀ p ∈ l, PRight p) :
    Calls Try.prog 111 #[v] w fun en w' => ∃ v, en = .returned (.tuple #[v, .int .i64 0]) ∧ Star [Ck.row 5 (.int .u8) v (encPlaces l)] w w.heap.size w' := by
  obtain ⟨A, c, rfl, h2, _⟩ := rd_slice h
  have H := hid h
  have HR := hid hR
  have S0 := hid (Star.nil w)
  clear h hR
  have hw : IntKind.u64.wrap (l.length : Int) = l.length := by simp [IntKind.wrap, IntKind.bits]; omega
  go_enter Try.func111, Try.ntmps111
  go_wp2_with (go_at_call 118; refine (all_any l _ _ H.out h0 h1 HR.out).mono ?_; rintro e w1 ⟨rfl, hb⟩; have S1 := hid (S0.out.go hb); clear hb)
  refine (uint_any (l.length : Int) (.slice none 0 0) [] [] w _ w.heap.size (by omega) (by omega) (by simp) (S1.out.nilrow _ _)).mono ?_
  rintro e w2 ⟨v1, rfl, h3⟩
  have S2 : Hid (Star [Ck.row 5 (.int .u8) v1 (leb l.length ++ ((l.take 0).map encPlace).flatten)] w w.heap.size w2) := by show Star _ _ _ _; simpa using h3
  clear h3
  go_wp2
  go_loopw [4, 6, 8, 18] (fun vo _ _ i wr => ∃ k : Nat, i = .int .i64 k ∧ k ≤ l.length ∧ Hid (Star [Ck.row 5 (.int .u8) vo (leb l.length ++ ((l.take k).map encPlace).flatten)] w w.heap.size wr)) (fun _ _ _ i _ => l.length - (intOf i).toNat)
  case atStart => exact ⟨0, rfl, by omega, S2.out⟩
  case round =>
    clear S1 S2 S0
    obtain ⟨k, rfl, hk, HS⟩ := hrel
    by_cases hlt : k < l.length
    · have hpr := HR.out _ (List.getElem_mem hlt)
      have HLen : Hid ((leb l.length ++ ((l.take k).map encPlace).flatten).length ≤ 900000) := by
        have g1 := encPlaces_len (l := l.take k) fun p hp => HR.out p (List.mem_of_mem_take hp)
        have g2 := leb_length3 (n := l.length) (by omega)
        rw [List.length_take] at g1
        show _ ≤ _
        rw [List.length_append]; omega
      have HE := hid (encTake hlt)
      generalize hpre : leb l.length ++ ((l.take k).map encPlace).flatten = pre at HS HLen
      have HPre := hid hpre
      clear hpre
      have g5 := encNums_len (l := l[k].nodes) fun x hx => by have := hpr.n1 x hx; omega
      have g6 := leb_length3 (n := l[k].ep) (by have := hpr.e1; omega)
      have g7 := leb_length3 (n := l[k].nodes.length) (by have := hpr.l1; omega)
      obtain ⟨ad, cl, rfl, g1, g2, g3⟩ := rd_getS H.out 2 rfl k hlt
      obtain ⟨u, rfl, g4⟩ := kPlace_open g1
      obtain ⟨A2, c2, rfl, _⟩ := rd_slice g4
      have e0 := cell_below HS.out.below (g2 _ rfl)
      have e1 := cell_below HS.out.below (g3 0 _ rfl)
      have q0 := hpr.e0
      have q1 := hpr.e1
      have q2 := hpr.l0
      have q3 := hpr.l1
      have HPR := hid hpr
      have G := hid g4
      have HB := hid (HS.out.below)
      have S1 := hid (HS.out.box [.int .i64 l[k].ep, .slice A2 l[k].nodes.length c2] 214)
      clear g1 g2 g3 g4 hpr HS
      have HL1 := hid (show pre.length ≤ 1000000 by have := HLen.out; omega)
      have HL2 := hid (show (pre ++ leb l[k].ep).length ≤ 1000000 by rw [List.length_append]; have := HLen.out; omega)
      go_wp2
      go_cut [4] (fun v4 wc => Hid (Star [Ck.row 5 (.int .u8) v4 (pre ++ leb l[k].ep ++ leb l[k].nodes.length), Ck.blk wr.heap.size [.int .i64 l[k].ep, .slice A2 l[k].nodes.length c2] 214] w w.heap.size wc))
      case first =>
        have hwe : IntKind.u64.wrap l[k].ep = l[k].ep := u64_in (by omega) (by omega)
        have hwl : IntKind.u64.wrap (l[k].nodes.length : Int) = (l[k].nodes.length : Int) := u64_in (by omega) (by omega)
        go_region_with (first
          | (go_at_call 62; (with_reducible refine (uint_any l[k].ep u4 pre [Ck.blk wr.heap.size [.int .i64 l[k].ep, .slice A2 l[k].nodes.length c2] 214] w _ w.heap.size (by omega) (by omega) HL1.out S1.out.swap.drew).mono ?_); rintro e w3 ⟨v2, rfl, h3⟩; have f1 := h3.at 1 rfl 1 _ rfl; have S3 := hid h3; clear h3)
          | (go_at_call 62; (with_reducible refine (uint_any (l[k].nodes.length : Int) v2 (pre ++ leb l[k].ep) [Ck.blk wr.heap.size [.int .i64 l[k].ep, .slice A2 l[k].nodes.length c2] 214] w _ w.heap.size (by omega) (by omega) HL2.out S3.out).mono ?_); rintro e w4 ⟨v3, rfl, h4⟩; have f2 := h4.at 1 rfl 1 _ rfl; have S4 := hid h4; clear h4))
        all_goals
          go_wp2
          go_meet
          case rel => exact S4.out
      case rest =>
        have f1 := hcut.out.at 1 rfl 0 _ rfl
        have f2 := hcut.out.at 1 rfl 1 _ rfl
        have S5 := hid hcut.out
        clear hcut S1
        go_wp2
        go_loopw [4, 8, 35] (fun v4 _ j wr' => ∃ m : Nat, j = .int .i64 m ∧ m ≤ l[k].nodes.length ∧ Hid (Star [Ck.row 5 (.int .u8) v4 (pre ++ leb l[k].ep ++ leb l[k].nodes.length ++ encNums (l[k].nodes.take m))] w w.heap.size wr')) (fun _ _ j _ => l[k].nodes.length - (intOf j).toNat)
        case atStart => exact ⟨0, rfl, by omega, by show Star _ _ _ _; simpa [encNums] using S5.out.perm [0] 2 (by decide) (by decide) (by simp)⟩
        case round =>
          clear f1 f2 S5
          obtain ⟨m, rfl, hm, HS⟩ := hrel
          by_cases hlm : m < l[k].nodes.length
          · obtain ⟨ad2, rfl, hc⟩ := rd_get1 (Kn.rd_below G.out HS.out.below) m hlm
            have x0 := HPR.out.n0 _ (List.getElem_mem hlm)
            have x1 := HPR.out.n1 _ (List.getElem_mem hlm)
            have HLx : Hid ((pre ++ leb l[k].ep ++ leb l[k].nodes.length ++ encNums (l[k].nodes.take m)).length ≤ 1000000) := by
              have g1 := encNums_len (l := l[k].nodes.take m) fun x hx => by have := HPR.out.n1 x (List.mem_of_mem_take hx); omega
              have := HLen.out
              rw [List.length_take] at g1
              show _ ≤ _
              simp only [List.length_append]; omega
            have HEn := hid (encNums_take hlm)
            go_wp2_with (go_at_call 62; refine (uint_any _ _ _ _ _ _ _ (by omega) (by omega) HLx.out HS.out).mono ?_; rintro e w3 ⟨v2, rfl, h3⟩; have S3 := hid h3; clear h3)
            go_roundw
            case rel => exact ⟨m + 1, by go_num, by omega, by rw [HEn.out, ← List.append_assoc]; exact S3.out⟩
            case measure => simp [intOf]; omega
          · obtain rfl : m = l[k].nodes.length := by omega
            have S6 : Hid (Star [Ck.row 5 (.int .u8) u4 (leb l.length ++ ((l.take (k + 1)).map encPlace).flatten)] w w.heap.size wr) := by
              show Star _ _ _ _
              rw [HE.out, ← List.append_assoc, HPre.out]
              have := HS.out
              rw [List.take_length] at this
              simpa only [encPlace, List.append_assoc] using this
            clear HS
            go_wp2
            go_roundw
            case rel => exact ⟨k + 1, by go_num, by omega, S6.out⟩
            case measure => simp [intOf]; omega
    · obtain rfl : k = l.length := by omega
      go_wp2
      go_ret2
      refine ⟨_, rfl, ?_⟩
      have := HS.out
      rw [List.take_length] at this
      exact this
end Go.Proofs.Ytihfikepfhcboaa
