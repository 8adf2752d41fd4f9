/-
  Walks: slices.Delete at []int, of a row of one's own; Mended.
-/
import Derived.Test.YtihfikepfhcboaaN3
import Derived.Deep.RegionWith
import Derived.Test.YtihfikepfhcboaaShelf
namespace Go.Proofs.Ytihfikepfhcboaa
open Go.RowKit

theorem setCells_far' {g : Nat} : ∀ (vs : List Value) (o : Nat) (w : World) (k : Nat), k ≠ g → (w.setCells g o vs).heap[k]? = w.heap[k]?
  | [], _, _, _, _ => rfl
  | v :: r, o, w, k, hk => by
    show ((w.setCell ⟨g, o, none⟩ v).setCells g (o + 1) r).heap[k]? = _
    rw [setCells_far' r (o + 1) _ k hk]
    exact Below.heap_setCell w ⟨g, o, none⟩ v k (fun e => hk e)

theorem setCells_world (g : Nat) : ∀ (vs : List Value) (o : Nat) (w : World), (w.setCells g o vs).os = w.os ∧ (w.setCells g o vs).tape = w.tape ∧ (w.setCells g o vs).output = w.output ∧ (w.setCells g o vs).heap.size = w.heap.size
  | [], _, _ => ⟨rfl, rfl, rfl, rfl⟩
  | v :: r, o, w => by
    obtain ⟨h1, h2, h3, h4⟩ := setCells_world g r (o + 1) (w.setCell ⟨g, o, none⟩ v)
    exact ⟨h1.trans rfl, h2.trans rfl, h3.trans rfl, h4.trans (by simp [World.setCell])⟩

theorem setCells_heap {g : Nat} {e : TypeId} : ∀ (vs : List Value) (o : Nat) (w : World) (cur : Array Value), w.heap[g]? = some (.cells cur e (0, 0)) → o + vs.length ≤ cur.size →
    ∃ cur', (w.setCells g o vs).heap[g]? = some (.cells cur' e (0, 0)) ∧ cur'.size = cur.size ∧ (∀ (i : Nat) (u : Value), vs[i]? = some u → cur'[o + i]? = some u) ∧ ∀ k : Nat, k < o → cur'[k]? = cur[k]?
  | [], _, _, cur, h, _ => ⟨cur, h, rfl, fun _ _ h => by simp at h, fun _ _ => rfl⟩
  | v :: r, o, w, cur, h, hl => by
    simp only [List.length_cons] at hl
    obtain ⟨cur', h1, h2, h3, h4⟩ := setCells_heap r (o + 1) (w.setCell ⟨g, o, none⟩ v) (cur.setIfInBounds o v) (heap_setCell_same h o v) (by simp; omega)
    refine ⟨cur', h1, by simpa using h2, fun i u hu => ?_, fun k hk => ?_⟩
    · match i, hu with
      | 0, hu =>
        rw [Nat.add_zero, h4 o (by omega), Array.getElem?_setIfInBounds_self, if_pos (by omega)]
        simpa using hu
      | i + 1, hu =>
        rw [show o + (i + 1) = o + 1 + i by omega]
        exact h3 i u (by simpa using hu)
    · rw [h4 k (by omega), Array.getElem?_setIfInBounds_ne (by omega)]

set_option maxHeartbeats 400000 in
theorem delete_any (l : List Int) (v : Value) (cs : List Ck) (w0 w : World) (B : Nat) (S : Star (Ck.row 3 (.int .i64) v l :: cs) w0 B w) (i : Nat) (hi : i < l.length) :
    Calls Try.prog 123 #[v, .int .i64 i, .int .i64 (i + 1)] w fun en w' => ∃ v', en = .returned v' ∧ Star (Ck.row 3 (.int .i64) v' (l.eraseIdx i) :: cs) w0 B w' := by
  obtain ⟨g, cap, rfl, h1, h2, h3, h4, h5⟩ := S.row_form (by omega)
  have hx : ∃ cap' cur, cap = cap' ∧ w.heap[g]? = some (.cells cur 3 (0, 0)) ∧ l.length ≤ cap' ∧ cap' ≤ maxLen ∧ cur.size = cap' ∧ ∀ (j : Nat) (h : j < l.length), cur[j]? = some (.int .i64 l[j]) := by
    rcases S.head with ⟨h0, _⟩ | ⟨g', cap', cur, h0, k2, k3, k4, k5, k6, k7⟩
    · cases h0
    · simp only [Value.slice.injEq, Option.some.injEq, Addr.mk.injEq] at h0
      obtain ⟨⟨rfl, _⟩, _, rfl⟩ := h0
      refine ⟨cap, cur, rfl, k3, k4, k5, by simpa [Kn.int, Kn.scalar] using k6, fun j hj => ?_⟩
      obtain ⟨c, e1, e2, e3⟩ := k7 j hj
      obtain rfl : c = [.int .i64 l[j]] := e1
      have := e3 0 _ rfl
      simpa [Kn.int, Kn.scalar] using this
  obtain ⟨_, cur, rfl, k3, k4, k5, k6, k7⟩ := hx
  refine (Try.slices_Delete_int_cells g 0 l.length cap i (i + 1) l w (Nat.le_refl _) h1 (by have : maxLen = 9223372036854775807 := rfl; omega) (by omega) (by omega) (fun j hj => ?_) (fun j _ => h5 _)).mono ?_
  · rw [Nat.zero_add, List.getD_eq_getElem?_getD, List.getElem?_eq_getElem hj, cell_of_row w g j cur 3 (0, 0) k3]
    exact k7 j hj
  · rintro en w' ⟨rfl, q, rfl⟩
    have e1 : l.length - (i + 1 - i) = (l.eraseIdx i).length := by rw [List.length_eraseIdx, if_pos hi]; omega
    rw [e1, List.take_length]
    refine ⟨_, rfl, (Star.drewN S q).turn fun F hF hF2 => ?_⟩
    have hFg : F g := by
      rcases hF with ⟨h0, _⟩ | ⟨g', cap', cur', h0, j2, _⟩
      · cases h0
      · simp only [Value.slice.injEq, Option.some.injEq, Addr.mk.injEq] at h0
        obtain ⟨⟨rfl, _⟩, _, rfl⟩ := h0
        exact j2
    have hk : (w.drewN q).heap[g]? = some (.cells cur 3 (0, 0)) := k3
    have hle : (l.eraseIdx i).length + 1 = l.length := by rw [List.length_eraseIdx, if_pos hi]; omega
    obtain ⟨cur', c1, c2, c3, c4⟩ := setCells_heap ((l.take i ++ l.drop (i + 1) ++ List.replicate (i + 1 - i) 0).map (Value.int .i64)) 0 (w.drewN q) cur hk (by simp; omega)
    obtain ⟨d1, d2, d3, d4⟩ := setCells_world g ((l.take i ++ l.drop (i + 1) ++ List.replicate (i + 1 - i) 0).map (Value.int .i64)) 0 (w.drewN q)
    refine ⟨⟨d1, d2, d3, by rw [d4]; exact Nat.le_refl _⟩, fun k hk _ => setCells_far' _ _ _ k (fun e => hk (e ▸ hFg)), .inr ⟨g, cap, cur', rfl, .inl hFg, c1, by omega, k5, by rw [c2]; simpa [Kn.int, Kn.scalar] using k6, ?_⟩⟩
    refine Els.of_scalar _ fun j hj => ?_
    have := c3 j (.int .i64 (l.eraseIdx i)[j]) (by
      rw [← List.eraseIdx_eq_take_drop_succ, List.getElem?_map, List.getElem?_append_left hj, List.getElem?_eq_getElem hj]; rfl)
    rwa [Nat.zero_add] at this
end Go.Proofs.Ytihfikepfhcboaa
