/-
  Walks: the closures that tell the next number.
-/
import Derived.Test.YtihfikepfhcboaaN1
namespace Go.Proofs.Ytihfikepfhcboaa
open Go.RowKit

set_option maxHeartbeats 1000000 in
set_option maxRecDepth 100000 in
/-- The next number of bytes, told by a closure: place.Read's. -/
theorem next_any (l post : List Int) (v : Value) (at_ : Nat) (n most : Int) (bb ba bd : Nat) (R : List Ck) (w0 w : World) (B : Nat)
    (h : Star (Ck.blk ba [.int .i64 at_] 3 :: Ck.blk bd [.bool false] 4 :: Ck.blk bb [v] 22 :: R) w0 B w) (hr : kBytes.rd w l [v]) (hl : l.length ≤ 1000000) (h0 : 0 ≤ n) (hn : n < 2097152) (hm : n ≤ most) (hmm : most < 1099511627776000)
    (hd : l.drop at_ = leb n ++ post) :
    Calls Try.prog 215 #[.int .i64 most, .pointer (some ⟨bb, 0, none⟩), .pointer (some ⟨ba, 0, none⟩), .pointer (some ⟨bd, 0, none⟩)] w fun en w' => en = .returned (.int .i64 n) ∧
      Star (Ck.blk ba [.int .i64 ((at_ : Int) + ((leb n).length : Nat))] 3 :: Ck.blk bd [.bool false] 4 :: Ck.blk bb [v] 22 :: R) w0 B w' := by
  have e0 := h.at 0 rfl 0 _ rfl
  have e1 := h.at 1 rfl 0 _ rfl
  have e2 := h.at 2 rfl 0 _ rfl
  have hne1 : ba ≠ bd := by
    intro e; subst e
    have := (h.get 0 _ rfl).2; have h2 := (h.get 1 _ rfl).2
    rw [h2] at this; cases this
  obtain ⟨A, c, rfl, _⟩ := rd_slice hr
  have H := hid h
  have HR := hid hr
  have HD := hid hd
  clear h hr hd
  go_enter Try.func215, Try.ntmps215
  go_wp2_with (go_at_call 63; refine (getUint_any l post _ at_ n _ HR.out hl h0 hn HD.out).mono ?_; rintro e w' ⟨rfl, rfl⟩)
  go_ret
  refine ⟨rfl, ?_⟩
  have hb : decide (most < n) = false := decide_eq_false (by omega)
  rw [hb]
  exact (H.out.swap.set_blk 0 (.bool false)).swap.set_blk 0 _
set_option maxHeartbeats 1000000 in
set_option maxRecDepth 100000 in
/-- The next number of bytes, told by a closure: move.Read's. -/
theorem mnext_any (l post : List Int) (v : Value) (at_ : Nat) (n most : Int) (bb ba bd : Nat) (R : List Ck) (w0 w : World) (B : Nat)
    (h : Star (Ck.blk ba [.int .i64 at_] 3 :: Ck.blk bd [.bool false] 4 :: Ck.blk bb [v] 22 :: R) w0 B w) (hr : kBytes.rd w l [v]) (hl : l.length ≤ 1000000) (h0 : 0 ≤ n) (hn : n < 2097152) (hm : n ≤ most) (hmm : most < 1099511627776000)
    (hd : l.drop at_ = leb n ++ post) :
    Calls Try.prog 213 #[.int .i64 most, .pointer (some ⟨bd, 0, none⟩), .pointer (some ⟨bb, 0, none⟩), .pointer (some ⟨ba, 0, none⟩)] w fun en w' => en = .returned (.int .i64 n) ∧
      Star (Ck.blk ba [.int .i64 ((at_ : Int) + ((leb n).length : Nat))] 3 :: Ck.blk bd [.bool false] 4 :: Ck.blk bb [v] 22 :: R) w0 B w' := by
  have e0 := h.at 0 rfl 0 _ rfl
  have e1 := h.at 1 rfl 0 _ rfl
  have e2 := h.at 2 rfl 0 _ rfl
  have hne1 : ba ≠ bd := by
    intro e; subst e
    have := (h.get 0 _ rfl).2; have h2 := (h.get 1 _ rfl).2
    rw [h2] at this; cases this
  obtain ⟨A, c, rfl, _⟩ := rd_slice hr
  have H := hid h
  have HR := hid hr
  have HD := hid hd
  clear h hr hd
  go_enter Try.func213, Try.ntmps213
  go_wp2_with (go_at_call 63; refine (getUint_any l post _ at_ n _ HR.out hl h0 hn HD.out).mono ?_; rintro e w' ⟨rfl, rfl⟩)
  go_ret
  refine ⟨rfl, ?_⟩
  have hb : decide (most < n) = false := decide_eq_false (by omega)
  rw [hb]
  exact (H.out.swap.set_blk 0 (.bool false)).swap.set_blk 0 _
end Go.Proofs.Ytihfikepfhcboaa
