/-
  Walks: copies, own, Of.
-/
import Derived.Test.YtihfikepfhcboaaM3
namespace Go.Proofs.Ytihfikepfhcboaa
open Go.RowKit
set_option maxHeartbeats 400000 in
set_option maxRecDepth 100000 in
/-- A copy: a row of one's own. -/
theorem clone_any (l : List Int) (v : Value) (w : World) (h : kInts.rd w l [v]) (hl : l.length ≤ 1000000) :
    Calls Try.prog 124 #[v] w (RetRow 3 (.int .i64) l w) := by
  obtain ⟨A, c, rfl, h1, h2, h3⟩ := rd_slice h
  have H := hid h
  clear h
  rcases A with _ | ad
  · obtain rfl : c = 0 := h3 rfl
    obtain rfl : l = [] := List.eq_nil_of_length_eq_zero (by omega)
    have heq := fun (w : World) => Lib.run_eql_slice_nil (P := Try.prog) w 25 3 none 0 0 0 0 Try.underlying25
    go_enter Try.func124, Try.ntmps124
    go_wp2
    go_ret
    exact ⟨_, rfl, (Star.nil w).nilrow _ _⟩
  · have heq := fun (w : World) => Lib.run_eql_slice_nil (P := Try.prog) w 25 3 (some ad) l.length c 0 0 Try.underlying25
    have H1 := hid ((Star.nil w).nums 3 .i64 [] (by simp))
    go_enter Try.func124, Try.ntmps124
    go_wp2_with (at_builtin; refine appS rfl _ _ 25 _ 8 rfl Try.underlying25 info3 rfl (by decide) H1.out rfl rfl (Kn.rd_below H.out (below1 _ _)) ?_ ?_)
    · simp; omega
    · intro v' w' h4 _ _
      go_wp2
      go_ret
      exact ⟨_, rfl, h4⟩

set_option maxHeartbeats 400000 in
set_option maxRecDepth 100000 in
/-- A placement in memory of its own. -/
theorem own_any (p : Place) (cs : List Value) (w : World) (h : kPlace.rd w p cs) (hl : p.nodes.length ≤ 1000000) :
    Calls Try.prog 120 #[.agg cs.toArray] w fun en w' => ∃ v, en = .returned (.agg #[.int .i64 p.ep, v]) ∧ Star [Ck.row 3 (.int .i64) v p.nodes] w w.heap.size w' := by
  obtain ⟨v, rfl, h1⟩ := kPlace_open h
  obtain ⟨A, c, rfl, _⟩ := rd_slice h1
  have H := hid h1
  clear h h1
  have S0 := hid (((Star.nil w).box [.int .i64 p.ep, .slice A p.nodes.length c] 214).box2 (w.heap.size + 1) (by simp) [.int .i64 0, .slice none 0 0] 214)
  go_enter Try.func120, Try.ntmps120
  go_wp2_with (go_at_call 124; refine (clone_any p.nodes _ _ (Kn.rd_below H.out (bup (below1 _ _) (below1 _ _))) hl).mono ?_; rintro e w1 ⟨v, rfl, h2⟩; obtain ⟨A1, c1, rfl, _⟩ := rd_slice h2.row_rd; have S1 := S0.out.frame h2; have e0 := S1.at 2 rfl 0 _ rfl; have e1 := S1.at 2 rfl 1 _ rfl; have e2 := S1.at 1 rfl 0 _ rfl; have e3 := S1.at 1 rfl 1 _ rfl; have HS := hid S1; clear S1)
  refine bodyPost_ret (v := .agg #[.int .i64 p.ep, .slice A1 p.nodes.length c1]) (by simp [results, Try.results120, go_sem, e2, e3]) rfl ⟨_, rfl, ?_⟩
  have S2 := (HS.out.front 2 _ rfl).set_blk 1 (.slice A1 p.nodes.length c1)
  have S3 := ((S2.front 2 _ rfl).set_blk 0 (.int .i64 p.ep)).set_blk 1 (.slice A1 p.nodes.length c1)
  exact (S3.front 2 _ rfl).pick id id fun i d hd => by match i, hd with | 0, hd => exact ⟨by simpa using hd, rfl⟩
abbrev kPlaces : Kn (List Place) := .slice kPlace
set_option maxHeartbeats 400000 in
set_option maxRecDepth 100000 in
theorem of_any (l : List Place) (v : Value) (n : Int) (k : Nat) (w : World) (h : kPlaces.rd w l [v]) (h0 : 0 ≤ n) (hn : n ≤ 1000) (hk : k < l.length) (hnk : n % (l.length : Int) = k) (hl : l[k].nodes.length ≤ 1000000) :
    Calls Try.prog 114 #[v, .int .i64 n] w fun en w' => ∃ v, en = .returned (.tuple #[.agg #[.int .i64 l[k].ep, v], .bool true]) ∧ Star [Ck.row 3 (.int .i64) v l[k].nodes] w w.heap.size w' := by
  obtain ⟨A, c, rfl, h1, h2, h3⟩ := rd_slice h
  obtain ⟨ad, cl, rfl, g1, g2, g3⟩ := rd_getS (Kn.rd_below h (below1 w (.cells #[.int .i64 0, .slice none 0 0] 214))) 2 rfl k hk
  obtain ⟨u, rfl, g4⟩ := kPlace_open g1
  obtain ⟨A2, c2, rfl, _⟩ := rd_slice g4
  have e0 := g2 _ rfl
  have e1 := g3 0 _ rfl
  have hl0 : ((l.length : Int) == 0) = false := by rw [beq_eq_false_iff_ne]; omega
  have hq : (n % (l.length : Int)).toNat = k := by omega
  have G := hid g1
  have S0 := hid ((Star.nil w).box [.int .i64 0, .slice none 0 0] 214)
  clear h g1 g2 g3 g4
  go_enter Try.func114, Try.ntmps114
  go_wp2_with (go_at_call 120; refine (own_any l[k] _ _ G.out hl).mono ?_; rintro e w1 ⟨v, rfl, h2⟩; obtain ⟨A1, c1, rfl, _⟩ := rd_slice h2.row_rd; have S1 := S0.out.frame h2; have e2 := S1.at 1 rfl 0 _ rfl; have e3 := S1.at 1 rfl 1 _ rfl; have HS := hid S1; clear S1)
  refine bodyPost_ret (v := .tuple #[.agg #[.int .i64 l[k].ep, .slice A1 l[k].nodes.length c1], .bool true]) (by simp [results, Try.results114, go_sem, e2, e3]) rfl ⟨_, rfl, ?_⟩
  have S2 := ((HS.out.front 1 _ rfl).set_blk 0 (.int .i64 l[k].ep)).set_blk 1 (.slice A1 l[k].nodes.length c1)
  exact S2.perm [1] 2 (by decide) (by decide) (by simp)
end Go.Proofs.Ytihfikepfhcboaa
