/-
  Walks: has, places17, a number that comes.
-/
import Derived.Test.YtihfikepfhcboaaM6
namespace Go.Proofs.Ytihfikepfhcboaa
open Go.RowKit

structure Seats where
  nodes : List (List Int)
  epochs : List Int
def kSeats : Kn Seats := .ptr 64 ((Kn.pair (.slice kInts) kInts).iso fun s => (s.nodes, s.epochs))
theorem kSeats_open {w : World} {F : Fp} {s : Seats} {v : Value} (h : kSeats.rep w F s [v]) : ∃ b v1 v2, v = .pointer (some ⟨b, 0, none⟩) ∧ F b ∧ w.cell? ⟨b, 0, none⟩ = some v1 ∧ w.cell? ⟨b, 1, none⟩ = some v2 ∧
    (Kn.slice kInts).rep w F s.nodes [v1] ∧ kInts.rep w F s.epochs [v2] := by
  obtain ⟨b, cells, he, hF, hb, c0, c1, hc, h0, h1⟩ := h
  simp only [List.cons.injEq, and_true] at he
  subst he
  obtain ⟨A, c, e0, h0⟩ := h0
  obtain ⟨A', c', e1, h1⟩ := h1
  subst e0 e1
  have hcell : ∀ j, w.cell? ⟨b, j, none⟩ = cells.toList[j]? := fun j => by rw [cell_of_row w b j cells 64 (0, 0) hb]; simp
  exact ⟨b, _, _, rfl, hF, by rw [hcell, hc]; rfl, by rw [hcell, hc]; rfl, ⟨A, c, rfl, h0⟩, A', c', rfl, h1⟩

set_option maxHeartbeats 400000 in
set_option maxRecDepth 100000 in
theorem has_any (s : Seats) (v : Value) (g : Nat) (node : Int) (w : World) (h : kSeats.rd w s [v]) (hg : g < s.nodes.length) :
    Calls Try.prog 26 #[v, .int .i64 g, .int .i64 node] w (RetW (.int .i64 (idx node s.nodes[g] 0)) w) := by
  obtain ⟨b, v1, v2, rfl, _, e0, e1, h1, h2⟩ := kSeats_open h
  obtain ⟨A, c, rfl, g1, g2, _⟩ := rd_slice h1
  have g2 := len63 g2
  obtain ⟨ad, cl, rfl, g3, g4, _⟩ := rd_getS h1 1 rfl g hg
  obtain ⟨A1, c1, he, g5⟩ : kInts.rd w s.nodes[g] cl := g3
  subst he
  have e2 := g4 _ rfl
  rw [Nat.mul_one] at e2
  have g6 : kInts.rd w s.nodes[g] [.slice A1 s.nodes[g].length c1] := ⟨A1, c1, rfl, g5⟩
  have g7 := len63 g5.2.2.1
  have H := hid g6
  clear h h1 h2 g4 g5 g6
  go_enter Try.func26, Try.ntmps26
  go_wp2
  go_loop [7, 8, 17] (fun _ _ i => ∃ k : Nat, i = .int .i64 k ∧ k ≤ s.nodes[g].length ∧ Hid (idx node (s.nodes[g].drop k) k = idx node s.nodes[g] 0)) (fun _ _ i => s.nodes[g].length - (intOf i).toNat)
  case atStart => exact ⟨0, rfl, by omega, rfl⟩
  case round =>
    obtain ⟨k, rfl, hk, HI⟩ := hrel
    by_cases hlt : k < s.nodes[g].length
    · obtain ⟨ad, rfl, hc⟩ := rd_get1 H.out k hlt
      by_cases hx : s.nodes[g][k] = node
      · have hb : (s.nodes[g][k] == node) = true := by simpa using hx
        have HF : Hid (idx node s.nodes[g] 0 = (k : Int)) := by
          have := HI.out
          rw [drop_cons hlt, idx, if_pos hx] at this
          exact this.symm
        clear hx
        go_wp2
        go_ret
        exact ⟨ret_int HF.out.symm, rfl⟩
      · have hb : (s.nodes[g][k] == node) = false := by simpa using hx
        have HF : Hid (idx node (s.nodes[g].drop (k + 1)) ((k + 1 : Nat) : Int) = idx node s.nodes[g] 0) := by
          have := HI.out
          rw [drop_cons hlt, idx, if_neg hx] at this
          exact this
        clear hx
        go_wp2
        go_round
        case rel => exact ⟨k + 1, by go_num, by omega, HF⟩
        case measure => simp [intOf]; omega
    · have HF : Hid (idx node s.nodes[g] 0 = -1) := by
        have := HI.out
        rw [List.drop_of_length_le (by omega)] at this
        exact this.symm
      go_wp2
      go_ret
      exact ⟨ret_int HF.out.symm, rfl⟩

theorem quiet29 {a b : List Int} {va vb : Value} {w : World} {r : Bool} (ha : kInts.rd w a [va]) (hb : kInts.rd w b [vb]) (hr : decide (a = b) = r) (n : Nat) :
    Calls Try.prog 29 #[va, vb] (w.drewN n) fun e w' => e = .returned (.bool r) ∧ ∃ m, w' = (w.drewN n).drewN m := by
  subst hr
  exact numbers17_any a b va vb _ (Kn.rd_below ha (below_drewN (Below.refl _ _) _)) (Kn.rd_below hb (below_drewN (Below.refl _ _) _))

set_option maxHeartbeats 1000000 in
set_option maxRecDepth 100000 in
theorem places17_any (a b : List Place) (va vb : Value) (w : World) (ha : kPlaces.rd w a [va]) (hb : kPlaces.rd w b [vb]) :
    Calls Try.prog 30 #[va, vb] w (Ret (.bool (decide (a = b))) w) := by
  obtain ⟨A, c, rfl, ha1, ha2, _⟩ := rd_slice ha
  obtain ⟨A', c', rfl, hb1, hb2, _⟩ := rd_slice hb
  have ha2 := len63 ha2
  have hb2 := len63 hb2
  have HA := hid ha
  have HB := hid hb
  clear ha hb
  by_cases hl : a.length = b.length
  · have hb0 : ((a.length : Int) != (b.length : Int)) = false := by rw [bne_eq_false_iff_eq, hl]
    have HLn := hid hl
    clear hl
    go_enter Try.func30, Try.ntmps30
    go_wp2
    go_loopw [5, 13] (fun _ i wr => ∃ k : Nat, i = .int .i64 k ∧ k ≤ a.length ∧ Hid (a.take k = b.take k) ∧ Hid (Below w.heap.size w wr)) (fun _ i _ => a.length - (intOf i).toNat)
    case atStart => exact ⟨0, rfl, by omega, rfl, Below.refl _ _⟩
    case round =>
      obtain ⟨k, rfl, hk, HI, HBl⟩ := hrel
      by_cases hlt : k < a.length
      · have hkb : k < b.length := by have := HLn.out; omega
        obtain ⟨ad, cl, rfl, g1, g2, g3⟩ := rd_getS (Kn.rd_below HA.out HBl.out) 2 rfl k hlt
        obtain ⟨u, rfl, g4⟩ := kPlace_open g1
        obtain ⟨ad', cl', rfl, g1', g2', g3'⟩ := rd_getS (Kn.rd_below HB.out HBl.out) 2 rfl k hkb
        obtain ⟨u', rfl, g4'⟩ := kPlace_open g1'
        have e0 := g2 _ rfl
        have e1 := g3 0 _ rfl
        have e0' := g2' _ rfl
        have e1' := g3' 0 _ rfl
        have G := hid g4
        have G' := hid g4'
        clear g1 g2 g3 g4 g1' g2' g3' g4'
        by_cases hx : a[k].ep = b[k].ep
        · have hbx : (a[k].ep != b[k].ep) = false := by simpa using hx
          have HX := hid hx
          clear hx
          by_cases hy : a[k].nodes = b[k].nodes
          · have HY := hid hy
            have HF : Hid (a.take (k + 1) = b.take (k + 1)) := by
              show _ = _
              rw [List.take_succ_eq_append_getElem hlt, List.take_succ_eq_append_getElem hkb, HI.out]
              congr 2
              cases ha : a[k]; cases hb : b[k]
              have := HX.out
              simp_all
            clear hy
            have HC := hid (quiet29 G.out G'.out (decide_eq_true HY.out))
            go_wp2
            go_quiet ((go_at_call 29; exact Calls.quiet_of (HC.out _)))
            go_wp2
            go_roundw
            case rel => exact ⟨k + 1, by go_num, by omega, HF, below_drewN HBl.out _⟩
            case measure => simp [intOf]; omega
          · have HY := hid hy
            have HF : Hid (decide (a = b) = false) := decide_eq_false fun e => hy (by subst e; rfl)
            clear hy
            have HC := hid (quiet29 G.out G'.out (decide_eq_false HY.out))
            go_wp2
            go_quiet ((go_at_call 29; exact Calls.quiet_of (HC.out _)))
            go_wp2
            go_ret
            exact ⟨ret_bool HF.out.symm, below_drewN HBl.out _⟩
        · have hbx : (a[k].ep != b[k].ep) = true := by simpa using hx
          have HF : Hid (decide (a = b) = false) := decide_eq_false fun e => hx (by subst e; rfl)
          clear hx
          go_wp2
          go_quiet (fail)
          go_wp2
          go_ret
          exact ⟨ret_bool HF.out.symm, below_drewN HBl.out _⟩
      · have HF : Hid (decide (a = b) = true) := by
          have := HI.out
          have := HLn.out
          rw [List.take_of_length_le (by omega), List.take_of_length_le (by omega)] at *
          exact decide_eq_true (by assumption)
        go_wp2
        go_ret
        exact ⟨ret_bool HF.out.symm, HBl.out⟩
  · have hb0 : ((a.length : Int) != (b.length : Int)) = true := by rw [bne_iff_ne]; omega
    have HF : Hid (decide (a = b) = false) := decide_eq_false fun e => hl (by rw [e])
    clear hl
    go_enter Try.func30, Try.ntmps30
    go_wp2
    go_ret
    exact ⟨ret_bool HF.out.symm, Below.refl _ _⟩
end Go.Proofs.Ytihfikepfhcboaa
