/-
  Walks: place.Move.
-/
import Derived.Test.YtihfikepfhcboaaN8
namespace Go.Proofs.Ytihfikepfhcboaa
open Go.RowKit

/-- A placement behind a move. -/
def mv1 (frm tt : Int) (p : Place) : Place := if frm ∈ p.nodes then ⟨p.ep + 1, p.nodes.set (idx frm p.nodes 0).toNat tt⟩ else p

/-- The groups that a move meets. -/
def grs (frm : Int) (l : List Place) : List Int := l.zipIdx.filterMap fun q => if frm ∈ q.1.nodes then some (q.2 : Int) else none

theorem grs_snoc (frm : Int) (l : List Place) (p : Place) : grs frm (l ++ [p]) = grs frm l ++ if frm ∈ p.nodes then [(l.length : Int)] else [] := by
  unfold grs
  rw [List.zipIdx_append, List.filterMap_append]
  congr 1
  by_cases h : frm ∈ p.nodes <;> simp [h]

theorem grs_len (frm : Int) (l : List Place) : (grs frm l).length ≤ l.length := by
  unfold grs
  exact Nat.le_trans (List.length_filterMap_le _ _) (by simp)

theorem take_snoc {α : Type} {l : List α} {k : Nat} (h : k < l.length) : l.take (k + 1) = l.take k ++ [l[k]] := (List.take_append_getElem h).symm

set_option maxRecDepth 100000 in
theorem isnode_any (n : Int) (w : World) (h0 : 0 ≤ n) (h1 : n < 256) : Calls Try.prog 116 #[.int .i64 n] w (RetW (.bool true) w) := by
  have eb1 : decide (n ≥ 0) = true := by simpa using h0
  have eb2 : decide (n < 256) = true := by simpa using h1
  go_enter Try.func116, Try.ntmps116
  go_wp2
  go_ret
  exact ⟨rfl, rfl⟩

set_option maxHeartbeats 2000000 in
set_option maxRecDepth 100000 in
theorem move_no (l : List Place) (v : Value) (frm tt : Int) (w : World) (h : kPlaces.rd w l [v]) (h0 : 1 ≤ l.length) (h1 : l.length ≤ 1000) (hR : ∀ p ∈ l, PRight p)
    (f0 : 0 ≤ frm) (f1 : frm < 256) (t0 : 0 ≤ tt) (t1 : tt < 256) (hx : frm = tt ∨ l.any (hinders frm tt) = true) :
    Calls Try.prog 27 #[v, .int .i64 frm, .int .i64 tt] w fun en w' => en = .returned (.tuple #[.slice none 0 0, .slice none 0 0, .int .i64 100]) ∧ Below w.heap.size w w' := by
  obtain ⟨A, c, rfl, h2, h3, _⟩ := rd_slice h
  have h3 := len63 h3
  have H := hid h
  have HR := hid hR
  have S0 := hid (((Star.nil w).box2 w.heap.size rfl [.int .i64 frm] 3).box2 (w.heap.size + 1) (by simp) [.int .i64 tt] 3)
  have HNf := fun w => isnode_any frm w f0 f1
  have HNt := fun w => isnode_any tt w t0 t1
  have HX := hid hx
  have HF : ∀ w1, Star [Ck.blk (w.heap.size + 1) [.int .i64 tt] 3, Ck.blk w.heap.size [.int .i64 frm] 3] w w.heap.size w1 → Tells 117 #[.pointer (some ⟨w.heap.size, 0, none⟩), .pointer (some ⟨w.heap.size + 1, 0, none⟩)] (hinders frm tt) l w1 := fun w1 hS w2 x cs hb _ hr =>
    hinders_any x cs _ _ frm tt w2 hr ((hS.go hb).at 1 rfl 0 _ rfl).1 ((hS.go hb).at 0 rfl 0 _ rfl).1
  have HF := hid HF
  clear h hR f0 f1 t0 t1 hx
  by_cases hft : frm = tt
  · subst hft
    have eb : (frm == frm) = true := by simp
    go_enter Try.func27, Try.ntmps27
    go_wp2_with (first
      | (go_at_call 118; refine (all_any l _ _ (Kn.rd_below H.out S0.out.below) h0 h1 HR.out).mono ?_; rintro e w' ⟨rfl, hb⟩; have S1 := hid (S0.out.go hb); have e0 := S1.out.at 0 rfl 0 _ rfl; have e1 := S1.out.at 1 rfl 0 _ rfl)
      | (go_at_call 116; refine (HNf _).mono ?_; rintro e w' ⟨rfl, rfl⟩))
    refine bodyPost_ret (v := .tuple #[.slice none 0 0, .slice none 0 0, .int .i64 100]) (by simp [results, Try.results27, go_sem]) rfl ?_
    exact ⟨rfl, S1.out.below⟩
  · have eb : (frm == tt) = false := by simpa using hft
    have HA : Hid (l.any (hinders frm tt) = true) := HX.out.resolve_left hft
    clear hft
    go_enter Try.func27, Try.ntmps27
    go_wp2_with (first
      | (go_at_call 118; refine (all_any l _ _ (Kn.rd_below H.out S0.out.below) h0 h1 HR.out).mono ?_; rintro e w' ⟨rfl, hb⟩; have S1 := hid (S0.out.go hb); have e0 := S1.out.at 0 rfl 0 _ rfl; have e1 := S1.out.at 1 rfl 0 _ rfl)
      | (go_at_call 116; (with_reducible show Calls Try.prog 116 #[Value.int .i64 frm] _ _); refine (HNf _).mono ?_; rintro e w' ⟨rfl, rfl⟩)
      | (go_at_call 116; (with_reducible show Calls Try.prog 116 #[Value.int .i64 tt] _ _); refine (HNt _).mono ?_; rintro e w' ⟨rfl, rfl⟩)
      | (go_at_call 119; refine (containsFunc_any l _ 117 _ (hinders frm tt) _ (Kn.rd_below H.out S1.out.below) (HF.out _ S1.out) (enters_of Try.func117 (by kernel_rfl) rfl)).mono ?_; rintro e w1 ⟨rfl, hb1⟩; rw [HA.out]; have S2 := hid (S1.out.go hb1)))
    refine bodyPost_ret (v := .tuple #[.slice none 0 0, .slice none 0 0, .int .i64 100]) (by simp [results, Try.results27, go_sem]) rfl ?_
    exact ⟨rfl, S2.out.below⟩
end Go.Proofs.Ytihfikepfhcboaa
