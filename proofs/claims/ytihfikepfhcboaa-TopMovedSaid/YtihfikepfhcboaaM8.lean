/-
  Walk: a number that comes.
-/
import Derived.Test.YtihfikepfhcboaaM7
namespace Go.Proofs.Ytihfikepfhcboaa
open Go.RowKit

theorem leb_head (q : Int) (h0 : 0 ≤ q) : ∃ c r, leb q = c :: r ∧ 0 ≤ c ∧ c % 128 = q % 128 ∧ ((q < 128 ∧ c = q ∧ r = []) ∨ (128 ≤ q ∧ c = 128 + q % 128 ∧ r = leb (q / 128))) := by
  by_cases h : q < 128
  · exact ⟨q, [], leb_small h, h0, rfl, .inl ⟨h, rfl, rfl⟩⟩
  · exact ⟨128 + q % 128, _, leb_big h, by omega, by omega, .inr ⟨by omega, rfl, rfl⟩⟩

theorem drop_head {α : Type} {l : List α} {k : Nat} {c : α} {r : List α} (h : l.drop k = c :: r) : ∃ hk : k < l.length, l[k] = c ∧ l.drop (k + 1) = r := by
  have hk : k < l.length := by
    rcases Nat.lt_or_ge k l.length with h' | h'
    · exact h'
    · rw [List.drop_of_length_le h'] at h; cases h
  rw [List.drop_eq_getElem_cons hk] at h
  injection h with h1 h2
  exact ⟨hk, h1, h2⟩

theorem tup3 {k1 k2 k3 : IntKind} {a a' b b' c c' : Int} (h1 : a = a') (h2 : b = b') (h3 : c = c') : Ending.returned (.tuple #[.int k1 a, .int k2 b, .int k3 c]) = .returned (.tuple #[.int k1 a', .int k2 b', .int k3 c']) := by rw [h1, h2, h3]

set_option maxHeartbeats 1000000 in
set_option maxRecDepth 100000 in
theorem getUint_any (l post : List Int) (v : Value) (at_ : Nat) (n : Int) (w : World) (h : kBytes.rd w l [v]) (hl : l.length ≤ 1000000) (h0 : 0 ≤ n) (hn : n < 2097152) (hd : l.drop at_ = leb n ++ post) :
    Calls Try.prog 63 #[v, .int .i64 at_] w (RetW (.tuple #[.int .u64 n, .int .i64 ((at_ : Int) + ((leb n).length : Nat)), .int .i64 0]) w) := by
  obtain ⟨A, c, rfl, h1, h2, _⟩ := rd_slice h
  have H := hid h
  have HD := hid hd
  have hat : at_ ≤ l.length := by
    rcases Nat.lt_or_ge l.length at_ with h' | h'
    · rw [List.drop_of_length_le (by omega)] at hd
      obtain ⟨c, r, e, _⟩ := leb_head n h0
      rw [e] at hd; cases hd
    · exact h'
  clear h hd h2
  go_enter Try.func63, Try.ntmps63
  go_wp2
  go_loop [7, 8, 9, 10] (fun a t _ _ => ∃ q acc : Int, a = .int .u64 acc ∧ 0 ≤ q ∧ 0 ≤ acc ∧
    ((t = .int .i64 at_ ∧ q < 2097152 ∧ acc = 0 ∧ Hid (q = n ∧ l.drop at_ = leb q ++ post ∧ (leb n).length = (leb q).length)) ∨
     (t = .int .i64 ((at_ : Int) + 1) ∧ 1 ≤ q ∧ q < 16384 ∧ acc ≤ 128 ∧ Hid (acc + 128 * q = n ∧ l.drop (at_ + 1) = leb q ++ post ∧ (leb n).length = 1 + (leb q).length)) ∨
     (t = .int .i64 ((at_ : Int) + 2) ∧ 1 ≤ q ∧ q < 128 ∧ acc ≤ 16384 ∧ Hid (acc + 16384 * q = n ∧ l.drop (at_ + 2) = leb q ++ post ∧ (leb n).length = 2 + (leb q).length)))) (fun _ t _ _ => l.length - (intOf t).toNat)
  case atStart => exact ⟨n, 0, rfl, h0, by omega, .inl ⟨rfl, hn, rfl, rfl, HD.out, rfl⟩⟩
  case round =>
    obtain ⟨q, acc, rfl, hq, hacc, hr⟩ := hrel
    obtain ⟨c0, r, he, hc0, hcm, hcase⟩ := leb_head q hq
    rcases hr with ⟨rfl, g1, rfl, G⟩ | ⟨rfl, g0, g1, g2, G⟩ | ⟨rfl, g0, g1, g2, G⟩
    · obtain ⟨hk, hke, hkd⟩ := drop_head (show l.drop at_ = c0 :: (r ++ post) by rw [G.out.2.1, he]; rfl)
      obtain ⟨ad, rfl, hc⟩ := rd_get1 H.out at_ hk
      rw [hke] at hc
      have ht : at_ < l.length := hk
      rcases hcase with ⟨g3, rfl, rfl⟩ | ⟨g3, rfl, rfl⟩
      · have HKd := hid he
        clear he hkd hke hcm hk
        go_wp2
        go_ret3
        refine ⟨tup3 (by have e1 := G.out.1; omega) (by have e1 := G.out.2.2; rw [HKd.out] at e1; simp at e1; omega) rfl, rfl⟩
      · skip
        have HN : Hid (q % 128 + 128 * (q / 128) = n ∧ l.drop (at_ + 1) = leb (q / 128) ++ post ∧ (leb n).length = 1 + (leb (q / 128)).length) :=
          ⟨by have := G.out.1; omega, hkd, by rw [G.out.2.2, he, List.length_cons]; omega⟩
        clear he hkd hke hcm hk G
        go_wp2
        go_round
        case rel => exact ⟨q / 128, q % 128, by go_num, by omega, by omega, .inr (.inl ⟨by go_num, by omega, by omega, by omega, HN⟩)⟩
        case measure => simp [intOf]; omega
    · obtain ⟨hk, hke, hkd⟩ := drop_head (show l.drop (at_ + 1) = c0 :: (r ++ post) by rw [G.out.2.1, he]; rfl)
      obtain ⟨ad, rfl, hc⟩ := rd_get1 H.out (at_ + 1) hk
      rw [hke] at hc
      simp only [Addr.add_succ'] at hc
      have ht : (at_ + 1) < l.length := hk
      rcases hcase with ⟨g3, rfl, rfl⟩ | ⟨g3, rfl, rfl⟩
      · have HKd := hid he
        clear he hkd hke hcm hk
        go_wp2
        go_ret3
        refine ⟨tup3 (by have e1 := G.out.1; omega) (by have e1 := G.out.2.2; rw [HKd.out] at e1; simp at e1; omega) rfl, rfl⟩
      · skip
        have HN : Hid (acc + q % 128 * 128 + 16384 * (q / 128) = n ∧ l.drop (at_ + 2) = leb (q / 128) ++ post ∧ (leb n).length = 2 + (leb (q / 128)).length) :=
          ⟨by have := G.out.1; omega, hkd, by rw [G.out.2.2, he, List.length_cons]; omega⟩
        clear he hkd hke hcm hk G
        go_wp2
        go_round
        case rel => exact ⟨_, _, _, _, _, ⟨q / 128, _, rfl, by omega, by omega, .inr (.inr ⟨by go_num, by omega, by omega, by omega, HN⟩)⟩, rfl, rfl, rfl, rfl, rfl⟩
        case measure => simp [intOf]; omega
    · obtain ⟨hk, hke, hkd⟩ := drop_head (show l.drop (at_ + 2) = c0 :: (r ++ post) by rw [G.out.2.1, he]; rfl)
      obtain ⟨ad, rfl, hc⟩ := rd_get1 H.out (at_ + 2) hk
      rw [hke] at hc
      rw [Addr.add_succ'] at hc
      have ht : (at_ + 2) < l.length := hk
      rcases hcase with ⟨g3, rfl, rfl⟩ | ⟨g3, rfl, rfl⟩
      · have HKd := hid he
        clear he hkd hke hcm hk
        go_wp2
        go_ret3
        refine ⟨tup3 (by have e1 := G.out.1; omega) (by have e1 := G.out.2.2; rw [HKd.out] at e1; simp at e1; omega) rfl, rfl⟩
      · omega
end Go.Proofs.Ytihfikepfhcboaa
