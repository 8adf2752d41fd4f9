/-
  Walks: known17.
-/
import Derived.Test.YtihfikepfhcboaaS7
namespace Go.Proofs.Ytihfikepfhcboaa
open Go.RowKit Go.Maps

theorem inn_shf {e : TypeId} {v : Value} {xs : List Int} {w : World} (a b : Int) (F : Fp) (h : (Ck.row e (.int .u8) v xs).holds w F) : (Ck.inn kShf [⟨a, b, xs⟩] [.int .u8 a, .int .u8 b, v]).holds w F := by
  refine ⟨rfl, Els.one (c := [.int .u8 a, .int .u8 b, v]) ?_ rfl fun j u hu => hu⟩
  exact ⟨[.int .u8 a], [.int .u8 b, v], rfl, rfl, [.int .u8 b], [v], rfl, rfl, row_rep h⟩

theorem known_a : (turns [0, 1, 2, 3, 4, 5, 6, 7, 8, 9] (ring 4 3 4, 0) [⟨0, 5, [4, 4]⟩]).2 = 7 := by decide
theorem known_b : (turns [0, 1] (ring 4 3 4, 0) [⟨1, 2, []⟩]).2 = 0 := by decide
theorem known_c : leb 300 = [172, 2] := by rw [leb_big (by decide), leb_small (by decide)]; rfl

theorem Star.litn {α : Type} {e : TypeId} {d : Kn α} {xs : List α} {news : List Value} {cs : List Ck} {w0 w : World} {B : Nat} (b : Nat) (hb : w.heap.size = b) (h : Star (Ck.inn d xs news :: cs) w0 B w) (hm : xs.length ≤ maxLen) :
    Star (Ck.row e d (.slice (some ⟨b, 0, none⟩) xs.length xs.length) xs :: cs) w0 B (w.alloc (.cells news.toArray e)) := by subst hb; exact h.lit hm

theorem moved_a (vs vh : Value) (w : World) (hs : kInts.rd w [0, 1, 2, 3, 4, 5, 6, 7, 8, 9] [vs]) (hh : (Kn.slice kShf).rd w [⟨0, 5, [4, 4]⟩] [vh]) :
    Calls Try.prog 9 #[.int .i64 4, .int .i64 3, .int .i64 4, vs, vh] w fun en w' => en = .returned (.tuple #[.int .i64 7, .bool true]) ∧ Below w.heap.size w w' := by
  have := moved_yes 4 3 4 [0, 1, 2, 3, 4, 5, 6, 7, 8, 9] [⟨0, 5, [4, 4]⟩] vs vh w (by decide) (by decide) (by decide) (by decide) (by decide) (by decide) hs hh ⟨by decide, by decide, by decide⟩ (by decide) (by decide) (by decide)
  rw [known_a] at this
  exact this
theorem moved_b (vs vh : Value) (w : World) (hs : kInts.rd w [0, 1] [vs]) (hh : (Kn.slice kShf).rd w [⟨1, 2, []⟩] [vh]) :
    Calls Try.prog 9 #[.int .i64 4, .int .i64 3, .int .i64 4, vs, vh] w fun en w' => en = .returned (.tuple #[.int .i64 0, .bool true]) ∧ Below w.heap.size w w' := by
  have := moved_yes 4 3 4 [0, 1] [⟨1, 2, []⟩] vs vh w (by decide) (by decide) (by decide) (by decide) (by decide) (by decide) hs hh ⟨by decide, by decide, by decide⟩ (by decide) (by decide) (by decide)
  rw [known_b] at this
  exact this
theorem moved_c (w : World) : Calls Try.prog 9 #[.int .i64 3, .int .i64 4, .int .i64 2, .slice none 0 0, .slice none 0 0] w fun en w' => en = .returned (.tuple #[.int .i64 0, .bool true]) ∧ Below w.heap.size w w' :=
  moved_no 3 4 2 _ _ w (by decide) (by decide) (by decide) (by decide) (by decide) (by decide)
theorem low_c (w : World) : Calls Try.prog 23 #[.int .i64 300] w (RetRow 5 (.int .u8) [172, 2] w) := by
  have := low17_any 301 300 w (by decide) (by decide) (by decide)
  rw [known_c] at this
  exact this
theorem left_c (w : World) (v v' : Value) (h : kInts.rd w [2, 3, 6] [v]) (h' : kInts.rd w [2, 3, 6] [v']) : Calls Try.prog 22 #[.agg #[.int .i64 0, .int .i64 5, v], .int .i64 0, .int .i64 5, v'] w (Ret (.bool true) w) :=
  left_any ⟨0, 5, [2, 3, 6]⟩ [.int .i64 0, .int .i64 5, v] v' w (Kn.rd_of (kMoving_mk (m := ⟨0, 5, [2, 3, 6]⟩) h)) h' ⟨by decide, by decide, by decide, by decide, by decide, by decide, ⟨by decide, by decide, by decide⟩⟩

set_option maxHeartbeats 4000000 in
set_option maxRecDepth 100000 in
theorem known_any (w : World) : Calls Try.prog 8 #[] w (Ret (.bool true) w) := by
  have S1 := (Star.nil w).numsn w.heap.size rfl 3 .i64 [0, 1, 2, 3, 4, 5, 6, 7, 8, 9] (by decide)
  have S2 := S1.numsn (w.heap.size + 1) (by simp) 5 .u8 [4, 4] (by decide)
  have S3 := hid (Star.litn (w.heap.size + 2) (by simp) (S2.say (c' := Ck.inn kShf [⟨0, 5, [4, 4]⟩] [.int .u8 0, .int .u8 5, .slice (some ⟨w.heap.size + 1, 0, none⟩) 2 2]) fun F h => inn_shf 0 5 F h) (e := 27) (by decide))
  clear S1 S2
  have heq : ((strOfNums [172, 2]).toList == [172, 2]) = true := by kernel_rfl
  go_enter Try.func8, Try.ntmps8
  go_wp2_with (first
    | (go_at_call 9; (with_reducible show Calls Try.prog 9 #[_, _, _, Value.slice _ 10 _, _] _ _); refine (moved_a _ _ _ (S3.out.front 1 _ rfl).row_rd S3.out.row_rd).mono ?_; rintro e w1 ⟨rfl, hb1⟩; have S4 := hid (S3.out.go hb1); have S5 := hid (Star.litn (w1.heap.size + 1) (by simp) (((S4.out.numsn w1.heap.size rfl 3 .i64 [0, 1] (by decide)).free (c := Ck.inn kShf [⟨1, 2, []⟩] [.int .u8 1, .int .u8 2, .slice none 0 0]) fun F => inn_shf (e := 5) 1 2 F (.inl ⟨rfl, rfl⟩))) (e := 27) (by decide)))
    | (go_at_call 9; (with_reducible show Calls Try.prog 9 #[_, _, _, Value.slice _ 2 _, _] _ _); refine (moved_b _ _ _ (S5.out.front 1 _ rfl).row_rd S5.out.row_rd).mono ?_; rintro e w2 ⟨rfl, hb2⟩; have S6 := hid (S5.out.go hb2))
    | (go_at_call 9; refine (moved_c _).mono ?_; rintro e w3 ⟨rfl, hb3⟩; have S7 := hid (S6.out.go hb3); have S8 := hid ((S7.out.numsn w3.heap.size rfl 3 .i64 [2, 3, 6] (by decide)).numsn (w3.heap.size + 1) (by simp) 3 .i64 [2, 3, 6] (by decide)))
    | (go_at_call 22; refine (left_c _ _ _ (S8.out.front 1 _ rfl).row_rd S8.out.row_rd).mono ?_; rintro e w4 ⟨rfl, hb4⟩; have S9 := hid (S8.out.go hb4))
    | (go_at_call 23; refine (low_c _).mono ?_; rintro e w5 ⟨v5, rfl, h5⟩; have S10 := hid (S9.out.frame h5); have d0 := row_str S10.out; clear h5))
  go_ret
  exact ⟨rfl, S10.out.below⟩
end Go.Proofs.Ytihfikepfhcboaa
