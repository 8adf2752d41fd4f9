/-
  Walks: Mended.
-/
import Derived.Test.YtihfikepfhcboaaN6
namespace Go.Proofs.Ytihfikepfhcboaa
open Go.RowKit
set_option maxHeartbeats 1000000 in
set_option maxRecDepth 100000 in
theorem mended_no (m : Moving) (cs : List Value) (n : Int) (w : World) (h : kMoving.rd w m cs) (hR : MRight m) (hi : idx n m.left 0 < 0) :
    Calls Try.prog 31 #[.agg cs.toArray, .int .i64 n] w fun en w' => en = .returned (.tuple #[.agg cs.toArray, .int .i64 167]) ∧ Below w.heap.size w w' := by
  obtain ⟨v, rfl, h1⟩ := kMoving_open h
  obtain ⟨A, c, rfl, _, hm, _⟩ := rd_slice h1
  have H := hid h
  have H1 := hid h1
  have HR := hid hR
  have HI := hid hi
  have eb1 : decide (idx n m.left 0 < 0) = true := by simpa using hi
  clear h h1 hm hR hi
  have S0 := hid ((Star.nil w).box2 w.heap.size rfl [.int .i64 m.from, .int .i64 m.to, .slice A m.left.length c] 55)
  have S1 := hid (S0.out.box2 (w.heap.size + 1) (by simp) [.int .i64 0, .int .i64 0, .slice none 0 0] 55)
  go_enter Try.func31, Try.ntmps31
  go_wp2_with (first
    | (go_at_call 122; refine (index_any m.left _ n _ (Kn.rd_below H1.out (bup (below1 _ _) (below1 _ _)))).mono ?_; rintro e w' ⟨rfl, hb⟩; have S2 := hid (S1.out.go hb); have e0 := S2.out.at 0 rfl 0 _ rfl; have e1 := S2.out.at 0 rfl 1 _ rfl; have e2 := S2.out.at 0 rfl 2 _ rfl; have e3 := S2.out.at 1 rfl 0 _ rfl; have e4 := S2.out.at 1 rfl 1 _ rfl; have e5 := S2.out.at 1 rfl 2 _ rfl)
    | (go_at_call 109; refine (mRight_any m _ _ (Kn.rd_below H.out (bup (bup (below1 _ _) (below1 _ _)) hb)) HR.out).mono ?_; rintro e w1 ⟨rfl, hb1⟩; have S3 := hid (S2.out.go hb1); have f0 := S3.out.at 0 rfl 0 _ rfl; have f1 := S3.out.at 0 rfl 1 _ rfl; have f2 := S3.out.at 0 rfl 2 _ rfl; have f3 := S3.out.at 1 rfl 0 _ rfl; have f4 := S3.out.at 1 rfl 1 _ rfl; have f5 := S3.out.at 1 rfl 2 _ rfl))
  refine bodyPost_ret (v := .tuple #[.agg #[.int .i64 m.from, .int .i64 m.to, .slice A m.left.length c], .int .i64 167]) (by simp [results, Try.results31, go_sem, f0, f1, f2]) rfl ⟨rfl, ?_⟩
  exact (((S3.out.set_blk 0 (.int .i64 m.from)).set_blk 1 (.int .i64 m.to)).set_blk 2 (.slice A m.left.length c)).below

set_option maxHeartbeats 1000000 in
set_option maxRecDepth 100000 in
theorem mended_yes (m : Moving) (cs : List Value) (n : Int) (w : World) (h : kMoving.rd w m cs) (hR : MRight m) (i : Nat) (hi : idx n m.left 0 = i) (hl : i < m.left.length) (hmax : m.left.length ≤ 1000000) :
    Calls Try.prog 31 #[.agg cs.toArray, .int .i64 n] w fun en w' => ∃ v, en = .returned (.tuple #[.agg #[.int .i64 m.from, .int .i64 m.to, v], .int .i64 0]) ∧ Star [Ck.row 3 (.int .i64) v (m.left.eraseIdx i)] w w.heap.size w' := by
  obtain ⟨v, rfl, h1⟩ := kMoving_open h
  obtain ⟨A, c, rfl, _, hm, _⟩ := rd_slice h1
  have H := hid h
  have H1 := hid h1
  have HR := hid hR
  have HIX : ∀ (v : Value) (w : World) (h : kInts.rd w m.left [v]), Calls Try.prog 122 #[v, .int .i64 n] w (Ret (.int .i64 i) w) := fun v w h => hi ▸ index_any m.left v n w h
  have eb1 : decide ((i : Int) < 0) = false := by rw [decide_eq_false_iff_not]; omega
  have ew : IntKind.i64.wrap ((i : Int) + 1) = (i : Int) + 1 := IntWalk.i64_in _ (by omega)
  clear h h1 hm hR hi
  have S0 := hid ((Star.nil w).box2 w.heap.size rfl [.int .i64 m.from, .int .i64 m.to, .slice A m.left.length c] 55)
  have S1 := hid (S0.out.box2 (w.heap.size + 1) (by simp) [.int .i64 0, .int .i64 0, .slice none 0 0] 55)
  go_enter Try.func31, Try.ntmps31
  go_wp2_with (first
    | (go_at_call 122; refine (HIX _ _ (Kn.rd_below H1.out (bup (below1 _ _) (below1 _ _)))).mono ?_; rintro e w' ⟨rfl, hb⟩; have S2 := hid (S1.out.go hb); have e0 := S2.out.at 0 rfl 0 _ rfl; have e1 := S2.out.at 0 rfl 1 _ rfl; have e2 := S2.out.at 0 rfl 2 _ rfl; have e3 := S2.out.at 1 rfl 0 _ rfl; have e4 := S2.out.at 1 rfl 1 _ rfl; have e5 := S2.out.at 1 rfl 2 _ rfl)
    | (go_at_call 109; refine (mRight_any m _ _ (Kn.rd_below H.out (bup (bup (below1 _ _) (below1 _ _)) hb)) HR.out).mono ?_; rintro e w1 ⟨rfl, hb1⟩; have S3 := hid (S2.out.go hb1); have f0 := S3.out.at 0 rfl 0 _ rfl; have f1 := S3.out.at 0 rfl 1 _ rfl; have f2 := S3.out.at 0 rfl 2 _ rfl; have f3 := S3.out.at 1 rfl 0 _ rfl; have f4 := S3.out.at 1 rfl 1 _ rfl; have f5 := S3.out.at 1 rfl 2 _ rfl)
    | (go_at_call 124; refine (clone_any m.left _ _ (Kn.rd_below H1.out (bup (bup (bup (below1 _ _) (below1 _ _)) hb) hb1)) hmax).mono ?_; rintro e w2 ⟨v, rfl, h2⟩; have S4 := hid (S3.out.frame h2); simp only [List.cons_append, List.nil_append] at S4)
    | (go_at_call 123; refine (delete_any m.left _ _ _ _ _ S4.out i hl).mono ?_; rintro e w3 ⟨v3, rfl, h3⟩; obtain ⟨A1, c1, rfl, _⟩ := rd_slice h3.row_rd; have S5 := hid h3; have g0 := S5.out.at 1 rfl 0 _ rfl; have g1 := S5.out.at 1 rfl 1 _ rfl; have g2 := S5.out.at 1 rfl 2 _ rfl; have g3 := S5.out.at 2 rfl 0 _ rfl; have g4 := S5.out.at 2 rfl 1 _ rfl; have g5 := S5.out.at 2 rfl 2 _ rfl))
  refine bodyPost_ret (v := .tuple #[.agg #[.int .i64 m.from, .int .i64 m.to, .slice A1 (m.left.eraseIdx i).length c1], .int .i64 0]) (by simp [results, Try.results31, go_sem, g0, g1, g2]) rfl ⟨_, rfl, ?_⟩
  have S6 := (S5.out.front 2 _ rfl).set_blk 2 (.slice A1 (m.left.eraseIdx i).length c1)
  have S7 := (((S6.front 2 _ rfl).set_blk 0 (.int .i64 m.from)).set_blk 1 (.int .i64 m.to)).set_blk 2 (.slice A1 (m.left.eraseIdx i).length c1)
  exact (S7.front 2 _ rfl).pick id id fun i d hd => by match i, hd with | 0, hd => exact ⟨by simpa using hd, rfl⟩
end Go.Proofs.Ytihfikepfhcboaa
