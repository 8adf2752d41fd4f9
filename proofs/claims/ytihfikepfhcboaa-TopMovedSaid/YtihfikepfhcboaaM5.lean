/-
  Walks: has, places17, and whether placements are right.
-/
import Derived.Test.YtihfikepfhcboaaM4
namespace Go.Proofs.Ytihfikepfhcboaa
open Go.RowKit

theorem idx_of_mem {n : Int} : ∀ {l : List Int} {k : Int}, n ∈ l → k ≤ idx n l k
  | x :: xs, k, h => by
    rw [idx]
    split
    · omega
    · rename_i hx
      have := idx_of_mem (k := k + 1) ((List.mem_cons.1 h).resolve_left fun e => hx e.symm)
      omega
theorem idx_of_not {n : Int} : ∀ {l : List Int} {k : Int}, n ∉ l → idx n l k = -1
  | [], _, _ => rfl
  | x :: xs, k, h => by
    rw [idx, if_neg fun e => h (by simp [e])]
    exact idx_of_not fun hm => h (List.mem_cons_of_mem _ hm)
theorem idx_ge {n : Int} {l : List Int} : decide (0 ≤ idx n l 0) = decide (n ∈ l) := by
  by_cases h : n ∈ l
  · rw [decide_eq_true h, decide_eq_true (idx_of_mem h)]
  · rw [decide_eq_false h, idx_of_not h]; rfl

set_option maxHeartbeats 400000 in
set_option maxRecDepth 100000 in
theorem contains_any (l : List Int) (v : Value) (n : Int) (w : World) (h : kInts.rd w l [v]) :
    Calls Try.prog 206 #[v, .int .i64 n] w (Ret (.bool (decide (n ∈ l))) w) := by
  have H := hid h
  have HE := hid (idx_ge (n := n) (l := l))
  clear h
  go_enter Try.func206, Try.ntmps206
  go_wp2_with (go_at_call 122; refine (index_any l _ n _ H.out).mono ?_; rintro e w' ⟨rfl, hb⟩)
  go_ret
  exact ⟨ret_bool HE.out, hb⟩

/-- A right placement. -/
structure PRight (p : Place) : Prop where
  e0 : 1 ≤ p.ep
  e1 : p.ep ≤ 1000
  l0 : 1 ≤ p.nodes.length
  l1 : p.nodes.length ≤ 255
  n0 : ∀ x ∈ p.nodes, 0 ≤ x
  n1 : ∀ x ∈ p.nodes, x < 256
  nd : p.nodes.Nodup

/-- A prefix of a slice that is read. -/
theorem rd_take {α : Type} {d : Kn α} {w : World} {xs : List α} {A : Option Addr} {n c : Nat} (h : (Kn.slice d).rd w xs [.slice A n c]) (k : Nat) (hk : k ≤ xs.length) : (Kn.slice d).rd w (xs.take k) [.slice A k c] := by
  obtain ⟨A', c', he, h0, h1, h2, h3⟩ := h
  simp only [List.cons.injEq, and_true, Value.slice.injEq] at he
  obtain ⟨rfl, rfl, rfl⟩ := he
  refine ⟨A, c, by rw [List.length_take, Nat.min_eq_left hk], h0, by rw [List.length_take]; omega, by rw [List.length_take]; omega, ?_⟩
  rcases h3 with rfl | ⟨ad, rfl, g1, g2, g3⟩
  · exact .inl (by simp)
  · exact .inr ⟨ad, rfl, g1, g2, g3.take k⟩

theorem not_mem_take {l : List Int} (h : l.Nodup) {k : Nat} (hk : k < l.length) : l[k] ∉ l.take k := by
  intro hm
  obtain ⟨j, hj, he⟩ := List.getElem_of_mem hm
  rw [List.getElem_take] at he
  rw [List.length_take] at hj
  have := (List.nodup_iff_pairwise_ne.1 h)
  exact (List.pairwise_iff_getElem.1 this j k (by omega) hk (by omega)) he

set_option maxHeartbeats 1000000 in
set_option maxRecDepth 100000 in
theorem pRight_any (p : Place) (cs : List Value) (w : World) (h : kPlace.rd w p cs) (hR : PRight p) :
    Calls Try.prog 217 #[.agg cs.toArray, .int .i64 256] w (Ret (.bool true) w) := by
  obtain ⟨v, rfl, h1⟩ := kPlace_open h
  obtain ⟨A, c, rfl, hc1, hm, hn⟩ := rd_slice h1
  have H := hid h1
  obtain ⟨g1, g2, g3, g4, g5, g6, g7⟩ := hR
  have HN := hid (And.intro g5 (And.intro g6 g7))
  have S0 := hid ((Star.nil w).box [.int .i64 p.ep, .slice A p.nodes.length c] 214)
  clear h h1 hm g5 g6 g7
  go_enter Try.func217, Try.ntmps217
  go_wp2
  go_loopw [5, 6, 38] (fun _ _ i wr => ∃ k : Nat, i = .int .i64 k ∧ k ≤ p.nodes.length ∧ Hid (Star [Ck.blk w.heap.size [.int .i64 p.ep, .slice A p.nodes.length c] 214] w w.heap.size wr)) (fun _ _ i _ => p.nodes.length - (intOf i).toNat)
  case atStart => exact ⟨0, rfl, by omega, S0.out⟩
  case round =>
    obtain ⟨k, rfl, hk, HS⟩ := hrel
    clear S0
    have HR := hid (Kn.rd_below H.out HS.out.below)
    have e1 := HS.out.at 0 rfl 1 _ rfl
    by_cases hlt : k < p.nodes.length
    · obtain ⟨ad, rfl, hc⟩ := rd_get1 HR.out k hlt
      have q1 := HN.out.1 _ (List.getElem_mem hlt)
      have q2 := HN.out.2.1 _ (List.getElem_mem hlt)
      have HM := hid (not_mem_take HN.out.2.2 hlt)
      go_wp2_with (go_at_call 206; refine (contains_any (p.nodes.take k) _ _ _ (rd_take HR.out k (by omega))).mono ?_; rintro e w' ⟨rfl, hb⟩; have hf : decide (p.nodes[k] ∈ p.nodes.take k) = false := decide_eq_false HM.out; rw [hf]; have HB := hid (HS.out.go hb); clear hf hb)
      go_roundw
      case rel => exact ⟨k + 1, by go_num, by omega, HB⟩
      case measure => simp [intOf]; omega
    · go_wp2
      go_ret
      exact ⟨rfl, HS.out.below⟩

end Go.Proofs.Ytihfikepfhcboaa
