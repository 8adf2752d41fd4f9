/-
  Walks: moved17.
-/
import Derived.Test.YtihfikepfhcboaaS5
import Derived.Test.YtihfikepfhcboaaS6
namespace Go.Proofs.Ytihfikepfhcboaa
open Go.RowKit Go.Maps

set_option maxHeartbeats 8000000 in
set_option maxRecDepth 100000 in
theorem moved_yes (nodes n groups : Nat) (sl : List Int) (ys : List Shf) (vs vh : Value) (w : World) (h0 : 1 ≤ nodes) (h1 : nodes ≤ 9) (h2 : 1 ≤ n) (h3 : n ≤ nodes) (h4 : 1 ≤ groups) (h5 : groups ≤ 7)
    (hs : kInts.rd w sl [vs]) (hh : (Kn.slice kShf).rd w ys [vh]) (hR : Rise sl) (hsl : sl.length ≤ 100) (hyl : ys.length ≤ 20) (hby : ∀ y ∈ ys, 0 ≤ y.src ∧ y.src < 256 ∧ 0 ≤ y.dst ∧ y.dst < 256 ∧ ∀ x ∈ y.mended, 0 ≤ x ∧ x < 256) :
    Calls Try.prog 9 #[.int .i64 nodes, .int .i64 n, .int .i64 groups, vs, vh] w fun en w' => en = .returned (.tuple #[.int .i64 (turns sl (ring nodes n groups, 0) ys).2, .bool true]) ∧ Below w.heap.size w w' := by
  have eb55 : decide (nodes < n) = false := by rw [decide_eq_false_iff_not]; omega
  obtain ⟨As, cs, rfl, _⟩ := rd_slice hs
  obtain ⟨Ah, ch, rfl, _⟩ := rd_slice hh
  have HSl := hid hs
  have HYs := hid hh
  have HRi := hid hR
  have HBy := hid hby
  clear hs hh hR hby
  go_enter Try.func9, Try.ntmps9
  go_upto_block 0 with (go_at_call 24; refine (first_any nodes n groups _ h0 h1 h2 h3 h4 h5).mono ?_; rintro e w1 ⟨v12, rfl, hs⟩; have S1 := hid hs; clear hs)
  have S2 := hid (((S1.out.box2 w1.heap.size rfl [.slice none 0 0, .slice none 0 0] 64)))
  refine wp_ends (blk0 nodes n groups w1.heap.size v12 w w.heap.size _ h0 h1 h2 h3 h4 h5 S2.out ?_)
  intros
  rename_i w2 M2
  have HFit := hid (fit_ring (groups := groups) h1 h2 h3)
  clear S1 S2
  go_wp2_with (go_at_call 25; refine (holds_any (ring nodes n groups) _ v12 _ M2.out.seats M2.out.places (by rw [ring_length]; omega) (by rw [ring_length]; omega) HFit.out.right).mono ?_; rintro e w3 ⟨rfl, hb⟩; have M3 := hid (M2.out.go hb))
  go_loopw [12, 18, 107] (fun v12 many i wr' => ∃ (j : Nat) (l : List Place) (c : Int), i = .int .i64 j ∧ j ≤ ys.length ∧ many = .int .i64 c ∧ Hid (turns sl (ring nodes n groups, 0) (ys.take j) = (l, c)) ∧ Hid (Mem w1.heap.size v12 l w w.heap.size wr')) (fun _ _ i _ => ys.length - (intOf i).toNat)
  case atStart => exact ⟨0, _, 0, rfl, by omega, rfl, rfl, M3⟩
  case round =>
    clear M2 M3
    obtain ⟨j, l, c, rfl, hj, rfl, HT, HM⟩ := hrel
    by_cases hlj : j < ys.length
    · have hT := turns_fit sl HFit.out (ys.take j) (by rw [List.length_take]; omega)
      rw [HT.out, List.length_take, Nat.min_eq_left hj] at hT
      obtain ⟨hF1, c0, c1⟩ := hT
      have hcb : c ≤ 100000 := by
        have : ((j : Int)) * (sl.length : Int) ≤ 20 * 100 := Int.mul_le_mul (by omega) (by omega) (by omega) (by omega)
        simp only at c1
        omega
      have HF1 := hid hF1
      obtain ⟨l', c', ht⟩ : ∃ l' c', turn1 sl (l, c) ys[j] = (l', c') := ⟨_, _, rfl⟩
      have HTn : Hid (turns sl (ring nodes n groups, 0) (ys.take (j + 1)) = (l', c')) := by show _ = _; rw [take_snoc hlj, turns_snoc, HT.out, ht]
      have Ht := hid ht
      have HLJ := hid hlj
      clear hF1 ht c1
      go_upto_block 5 with fail
      refine wp_ends (blk5 l l' sl ys j groups c c' w1.heap.size cs ch As Ah _ w _ HLJ.out (by omega) HF1.out h4 h5 HRi.out hsl c0 hcb HSl.out HYs.out (HBy.out _ (List.getElem_mem HLJ.out)) Ht.out HM.out ?_)
      intros
      rename_i w4 M4
      go_wp2
      go_roundw
      case rel => exact ⟨j + 1, l', c', by go_num, by have := HLJ.out; omega, rfl, HTn, M4⟩
      case measure => have := HLJ.out; simp [intOf]; omega
    · obtain rfl : j = ys.length := by omega
      go_wp2
      rw [List.take_length] at HT
      obtain ⟨_, _, _, _, HS⟩ := HM.out
      refine bodyPost_ret (v := .tuple #[.int .i64 c, .bool true]) (by simp [results, Try.results9, go_sem]) rfl ⟨by rw [HT.out], HS.below⟩
end Go.Proofs.Ytihfikepfhcboaa
