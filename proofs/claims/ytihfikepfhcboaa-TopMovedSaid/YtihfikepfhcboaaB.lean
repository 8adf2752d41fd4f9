/-
  Lemmas of this claim's own: what allocs, stores and appends do to 'Star'. No program in sight.
-/
import Derived.Test.YtihfikepfhcboaaA
import Derived.WalkKit
namespace Go.Proofs.Ytihfikepfhcboaa
open Go.RowKit

/-! ### New blocks -/
theorem Star.box {cs : List Ck} {w0 w : World} {B : Nat} (h : Star cs w0 B w) (cells : List Value) (T : TypeId) :
    Star (Ck.blk w.heap.size cells T :: cs) w0 B (w.alloc (.cells cells.toArray T)) :=
  h.fresh ((Below.refl _ _).alloc (Nat.le_refl _) _) ⟨Nat.le_refl _, heap_alloc_new w _⟩

/-- The same, the block's number told. -/
theorem Star.box2 {cs : List Ck} {w0 w : World} {B : Nat} (h : Star cs w0 B w) (b : Nat) (hb : w.heap.size = b) (cells : List Value) (T : TypeId) :
    Star (Ck.blk b cells T :: cs) w0 B (w.alloc (.cells cells.toArray T)) := by subst hb; exact h.box cells T

/-- A chunk that needs no memory. -/
theorem Star.free {cs : List Ck} {w0 w : World} {B : Nat} {c : Ck} (h : Star cs w0 B w) (hc : ∀ F, c.holds w F) : Star (c :: cs) w0 B w :=
  h.fresh (Below.refl _ _) (hc _)

theorem Star.free2 {cs : List Ck} {w0 w : World} {B : Nat} {c c' : Ck} (h : Star (c' :: cs) w0 B w) (hc : ∀ F, c.holds w F) : Star (c' :: c :: cs) w0 B w :=
  (h.free hc).swap

/-- The two at the front become one. -/
theorem Star.join {c1 c2 c : Ck} {cs : List Ck} {w0 w : World} {B : Nat} (h : Star (c1 :: c2 :: cs) w0 B w)
    (hc : ∀ F1 F2 : Fp, c1.holds w F1 → c2.holds w F2 → (∀ k, F1 k → ¬ F2 k) → c.holds w (fun k => F1 k ∨ F2 k)) : Star (c :: cs) w0 B w := by
  obtain ⟨h1, h2, own, h3⟩ := h
  refine ⟨h1, h2, fun k => own k - 1, fun i d hd => ?_⟩
  match i, hd with
  | 0, hd =>
    obtain rfl : c = d := by simpa using hd
    refine c.mono (fun k hk => ?_) (hc _ _ (h3 0 c1 rfl) (h3 1 c2 rfl) (fun k h4 h5 => by have := h4.2; have := h5.2; omega))
    rcases hk with hk | hk
    · exact ⟨hk.1, by dsimp only; rw [hk.2]⟩
    · exact ⟨hk.1, by dsimp only; rw [hk.2]⟩
  | i + 1, hd => exact d.mono (fun k hk => ⟨hk.1, by dsimp only; rw [hk.2]; omega⟩) (h3 (i + 2) d (by simpa using hd))

/-- One becomes two. -/
theorem Star.split {c1 c2 c : Ck} {cs : List Ck} {w0 w : World} {B : Nat} (h : Star (c :: cs) w0 B w)
    (hc : ∀ F : Fp, c.holds w F → ∃ G : Fp, c1.holds w (fun k => F k ∧ G k) ∧ c2.holds w (fun k => F k ∧ ¬ G k)) : Star (c1 :: c2 :: cs) w0 B w := by
  obtain ⟨h1, h2, own, h3⟩ := h
  obtain ⟨G, g1, g2⟩ := hc _ (h3 0 c rfl)
  open Classical in
  refine ⟨h1, h2, fun k => if own k = 0 then (if G k then 0 else 1) else own k + 1, fun i d hd => ?_⟩
  match i, hd with
  | 0, hd =>
    obtain rfl : c1 = d := by simpa using hd
    exact c1.mono (fun k hk => ⟨hk.1.1, by dsimp only; rw [if_pos hk.1.2, if_pos hk.2]⟩) g1
  | 1, hd =>
    obtain rfl : c2 = d := by simpa using hd
    exact c2.mono (fun k hk => ⟨hk.1.1, by dsimp only; rw [if_pos hk.1.2, if_neg hk.2]⟩) g2
  | i + 2, hd => exact d.mono (fun k hk => ⟨hk.1, by dsimp only; rw [hk.2, if_neg (by omega)]⟩) (h3 (i + 1) d (by simpa using hd))

/-- Of the first n those that are named, in that order; then the others. -/
theorem Star.perm {cs : List Ck} {w0 w : World} {B : Nat} (h : Star cs w0 B w) (is : List Nat) (n : Nat) (hnd : is.Nodup) (hlt : ∀ i ∈ is, i < n) (hn : n ≤ cs.length) :
    Star (is.map (fun i => cs.getD i Ck.emp) ++ cs.drop n) w0 B w :=
  h.pick (fun i => if i < is.length then is.getD i 0 else i - is.length + n) (fun j => if j < n then is.idxOf j else j - n + is.length) fun i d hd => by
    by_cases hi : i < is.length
    · rw [List.getElem?_append_left (by simpa using hi)] at hd
      have hm : is[i] ∈ is := List.getElem_mem hi
      have h1 : is.getD i 0 = is[i] := by simp [List.getD_eq_getElem?_getD, hi]
      have h2 := hlt _ hm
      simp only [if_pos hi, h1, if_pos h2]
      refine ⟨?_, ?_⟩
      · simp only [List.getElem?_map, List.getElem?_eq_getElem hi, Option.map_some, Option.some.injEq] at hd
        rw [← hd, List.getElem?_eq_getElem (by omega)]
        simp [List.getD_eq_getElem?_getD, List.getElem?_eq_getElem (show is[i] < cs.length by omega)]
      · exact hnd.idxOf_getElem i hi
    · rw [List.getElem?_append_right (by simpa using hi), List.length_map, List.getElem?_drop] at hd
      simp only [if_neg hi]
      refine ⟨by rw [Nat.add_comm]; exact hd, by rw [if_neg (by omega)]; omega⟩

/-! ### Stores -/
theorem heap_setCell_same {w : World} {b : Nat} {cells : Array Value} {T : TypeId} (h : w.heap[b]? = some (.cells cells T (0, 0))) (j : Nat) (u : Value) :
    (w.setCell ⟨b, j, none⟩ u).heap[b]? = some (.cells (cells.setIfInBounds j u) T (0, 0)) := by
  simp [World.setCell, Array.getElem?_modify, h]

theorem Star.set_blk {cs : List Ck} {w0 w : World} {B b : Nat} {cells : List Value} {T : TypeId} (h : Star (Ck.blk b cells T :: cs) w0 B w) (j : Nat) (u : Value) :
    Star (Ck.blk b (cells.set j u) T :: cs) w0 B (w.setCell ⟨b, j, none⟩ u) :=
  h.turn fun F hF _ => ⟨⟨rfl, rfl, rfl, by simp [World.setCell]⟩, Same.setCell (p := ⟨b, j, none⟩) (fun hn => hn hF.1) u, .inl hF.1, by
    rw [heap_setCell_same hF.2]; simp⟩

theorem Star.blk_cell {cs : List Ck} {w0 w : World} {B b : Nat} {cells : List Value} {T : TypeId} (h : Star (Ck.blk b cells T :: cs) w0 B w) (j : Nat) : w.cell? ⟨b, j, none⟩ = cells[j]? := by
  have := h.head.2
  simp [World.cell?, this]
theorem Star.blk_frozen {cs : List Ck} {w0 w : World} {B b : Nat} {cells : List Value} {T : TypeId} (h : Star (Ck.blk b cells T :: cs) w0 B w) (j : Nat) : w.frozen? ⟨b, j, none⟩ = false := by
  have := h.head.2
  simp [World.frozen?, this]
theorem Star.blk_lt {cs : List Ck} {w0 w : World} {B b : Nat} {cells : List Value} {T : TypeId} (h : Star (Ck.blk b cells T :: cs) w0 B w) : b < w.heap.size :=
  (Array.getElem?_eq_some_iff.1 h.head.2).1

/-- A cell of the n-th chunk, a block. -/
theorem Star.at {cs : List Ck} {w0 w : World} {B b : Nat} {cells : List Value} {T : TypeId} (h : Star cs w0 B w) (n : Nat) (hc : cs[n]? = some (Ck.blk b cells T)) (j : Nat) (x : Value) (hx : cells[j]? = some x) :
    w.cell? ⟨b, j, none⟩ = some x ∧ w.frozen? ⟨b, j, none⟩ = false :=
  ⟨((h.front n _ hc).blk_cell j).trans hx, (h.front n _ hc).blk_frozen j⟩

/-! ### Rows -/
theorem Els.mem {α : Type} {R : α → List Value → Prop} {size : Nat} {xs : List α} {news : List Value} (h : Els R size xs (fun k => news[k]?)) (hl : news.length = xs.length * size) (hs : 0 < size) :
    ∀ u ∈ news, ∃ x c, R x c ∧ u ∈ c := by
  intro u hu
  obtain ⟨k, hk, rfl⟩ := List.getElem_of_mem hu
  have hi : k / size < xs.length := (Nat.div_lt_iff_lt_mul hs).2 (by omega)
  obtain ⟨c, h1, h2, h3⟩ := h (k / size) hi
  have hj : k % size < c.length := by rw [h2]; exact Nat.mod_lt _ hs
  refine ⟨_, c, h1, ?_⟩
  have := h3 (k % size) c[k % size] (List.getElem?_eq_getElem hj)
  dsimp only at this
  rw [Nat.mul_comm, Nat.div_add_mod, List.getElem?_eq_getElem hk] at this
  rw [Option.some.inj this]
  exact List.getElem_mem hj

/-- What is inside of elements that are being handed on. -/
def Ck.inn {α : Type} (d : Kn α) (ys : List α) (news : List Value) : Ck where
  holds := fun w F => news.length = ys.length * d.sz ∧ Els (d.rep w F) d.sz ys (fun k => news[k]?)
  mono := fun hF h => ⟨h.1, h.2.imp (fun _ _ h => d.mono hF h) (fun _ _ h => h)⟩
  move := fun hS h => ⟨h.1, h.2.imp (fun _ _ h => d.move hS h) (fun _ _ h => h)⟩
  bound := fun h => ⟨h.1, h.2.imp (fun _ _ h => d.bound h) (fun _ _ h => h)⟩

theorem row_owns {α : Type} {e : TypeId} {d : Kn α} {v : Value} {xs : List α} {w : World} {F : Fp} (h : (Ck.row e d v xs).holds w F) :
    ∃ inner, w.ownsRow 0 e d.sz v xs.length inner ∧ (∀ k, v.ownBlock = some k → F k) ∧ Els (d.rep w (fun k => F k ∧ v.ownBlock ≠ some k)) d.sz xs (fun k => inner[k]?) := by
  rcases h with ⟨rfl, rfl⟩ | ⟨g, cap, cur, rfl, h2, h3, h4, h5, h6, h7⟩
  · exact ⟨[], ⟨by simp, .inl ⟨rfl, rfl⟩⟩, fun k hk => by simp [Value.ownBlock] at hk, Els.nil _ _ _⟩
  · refine ⟨cur.toList.take (xs.length * d.sz), ⟨?_, .inr ⟨g, cap, cur, rfl, Nat.zero_le _, h3, h4, h5, h6, rfl⟩⟩, fun k hk => ?_, ?_⟩
    · have := Nat.mul_le_mul_right d.sz h4
      simp only [List.length_take]
      rw [show cur.toList.length = cap * d.sz by simpa using h6]
      exact Nat.min_eq_left this
    · simp [Value.ownBlock] at hk; exact hk ▸ h2
    · refine h7.imp_lt (fun x c hx => d.mono (fun k hk => ⟨hk.1, fun e => hk.2 ?_⟩) hx) (fun k u hk hu => ?_)
      · rw [List.getElem?_take, if_pos hk]; simpa using hu
      · simp [Value.ownBlock] at e; exact e.symm

theorem row_of_owns {α : Type} {e : TypeId} {d : Kn α} {v : Value} {xs : List α} {w : World} {F : Fp} {inner : List Value} {base : Nat} (h : w.ownsRow base e d.sz v xs.length inner) (hF : ∀ k, v.ownBlock = some k → F k)
    (hE : Els (d.rep w (fun k => F k ∧ v.ownBlock ≠ some k)) d.sz xs (fun k => inner[k]?)) : (Ck.row e d v xs).holds w F := by
  rcases h.2 with ⟨rfl, hn⟩ | ⟨g, cap, cur, rfl, hb, h3, h4, h5, h6, rfl⟩
  · exact .inl ⟨rfl, List.eq_nil_of_length_eq_zero hn⟩
  · refine .inr ⟨g, cap, cur, rfl, hF g (by simp [Value.ownBlock]), h3, h4, h5, h6, hE.imp (fun x c hx => d.mono (fun k hk => ⟨hk.1, fun e => hk.2 (by simp [Value.ownBlock, e])⟩) hx) (fun k u hu => ?_)⟩
    rw [List.getElem?_take] at hu
    split at hu
    · simpa using hu
    · cases hu

theorem Ck.row_lt {α : Type} {e : TypeId} {d : Kn α} {v : Value} {xs : List α} {w : World} {F : Fp} (h : (Ck.row e d v xs).holds w F) : ∀ k, v.ownBlock = some k → k < w.heap.size := by
  obtain ⟨inner, h1, _⟩ := row_owns h
  exact fun k hk => (h1.lt k hk).2

/-- What comes of an append: the row is longer, by elements whose insides it takes over. -/
theorem Star.append_run {α : Type} {P : Program} {e : TypeId} {d : Kn α} {v : Value} {xs ys : List α} {news : List Value} {cs : List Ck} {w0 w : World} {B : Nat}
    (h : Star (Ck.row e d v xs :: Ck.inn d ys news :: cs) w0 B w) (t ty : TypeId) (z : Value) (bytes : Nat)
    (ht : P.underlying t = some (.slice e)) (hinfo : (P.info? e).map (fun i => (i.zero, i.size, i.bytes)) = some (some z, d.sz, bytes)) (hz : z.cells.size = d.sz) (hs0 : 0 < d.sz) (hb0 : 0 < bytes)
    (ad : Addr) (c : Nat) (hnews : ∀ j u, news[j]? = some u → w.cell? (ad.add j) = some u) (hl : (xs.length + ys.length) * bytes ≤ 140737488355328) :
    ∃ v' w', (Builtin.append_ #[t, t] ty #[v, .slice (some ad) ys.length c]).run P w = .ok v' w' ∧ Star (Ck.row e d v' (xs ++ ys) :: cs) w0 B w' ∧ w.heap.size ≤ w'.heap.size ∧
      (v' = .slice none 0 0 ↔ v = .slice none 0 0 ∧ ys.length = 0) := by
  obtain ⟨i0, hi, hzz⟩ := Option.map_eq_some_iff.1 hinfo
  simp only [Prod.mk.injEq] at hzz
  obtain ⟨hz0, hz1, hz2⟩ := hzz
  have hlen : xs.length + ys.length ≤ 140737488355328 := Nat.le_trans (Nat.le_mul_of_pos_right _ hb0) hl
  obtain ⟨s1, s2, own, s3⟩ := h
  have hrow := s3 0 _ rfl
  obtain ⟨hnl, hin⟩ := s3 1 _ rfl
  obtain ⟨inner, o1, o2, o3⟩ := row_owns hrow
  have hone : ∀ u ∈ news, u.oneCell' = true := fun u hu => by
    obtain ⟨x, c, hx, hc⟩ := hin.mem hnl hs0 u hu
    exact d.one hx u hc
  obtain ⟨v', w', hr, hown, hg, hnil, hat⟩ := run_append_own_at (P := P) w 0 t ty e i0 z d.sz bytes ht hi hz0 hz1 hz2 hz hs0 v xs.length inner o1 ad ys.length c news hnl hnews hone (by simp only [maxLen]; omega) hl (Nat.zero_le _)
  have hvB : ∀ k, v.ownBlock = some k → B ≤ k ∧ own k = 0 := fun k hk => o2 k hk
  have hlt : ∀ k, v.ownBlock = some k → k < w.heap.size := fun k hk => (o1.lt k hk).2
  refine ⟨v', w', hr, ⟨s1.trans ⟨hg.os, hg.tape, hg.output, hg.size, fun k hk => hg.block k (by omega) (fun e => by have := hvB k e.symm; omega)⟩, Nat.le_trans s2 hg.size, fun k => if w.heap.size ≤ k then 0 else own k - 1, fun i c' hc' => ?_⟩, hg.size, hnil⟩
  have hmv : ∀ {F : Fp}, (∀ k, F k → k < w.heap.size → v.ownBlock ≠ some k) → Same F w w' := fun {F} hF k hk hl => hg.block k hl (fun e => hF k hk hl e.symm)
  match i, hc' with
  | 0, hc' =>
    obtain rfl : Ck.row e d v' (xs ++ ys) = c' := by simpa using hc'
    have hv' : ∀ k, v'.ownBlock = some k → (v.ownBlock = some k ∧ k < w.heap.size) ∨ k = w.heap.size := fun k hk => by
      rcases hat with hat | hat
      · exact .inl ⟨hat ▸ hk, hlt k (hat ▸ hk)⟩
      · rw [hat] at hk; exact .inr (Option.some.inj hk).symm
    refine row_of_owns (base := 0) (by rw [List.length_append]; exact hown) (fun k hk => ?_) (Els.append ?_ ?_)
    · rcases hv' k hk with ⟨h4, h5⟩ | rfl
      · exact ⟨(hvB k h4).1, by dsimp only; rw [if_neg (by omega), (hvB k h4).2]⟩
      · exact ⟨s2, by dsimp only; rw [if_pos (Nat.le_refl _)]⟩
    · refine o3.imp (fun x c hx => ?_) (fun k u hu => ?_)
      · have := d.move (w' := w') (hmv (fun k hk _ => hk.1.2)) (d.bound hx)
        exact d.mono (fun k hk => ⟨⟨hk.1.1.1, by dsimp only; rw [if_neg (by have := hk.2; omega), hk.1.1.2]⟩, fun e => by
          rcases hv' k e with ⟨h4, _⟩ | rfl
          · exact hk.1.2 h4
          · exact absurd hk.2 (by omega)⟩) this
      · rw [List.getElem?_append_left (List.getElem?_eq_some_iff.1 hu).1]; exact hu
    · refine hin.imp (fun x c hx => ?_) (fun k u hu => ?_)
      · have := d.move (w' := w') (hmv (fun k hk _ e => by have := (hvB k e).2; have := hk.1.2; omega)) (d.bound hx)
        exact d.mono (fun k hk => ⟨⟨hk.1.1, by dsimp only; rw [if_neg (by have := hk.2; omega), hk.1.2]⟩, fun e => by
          rcases hv' k e with ⟨h4, _⟩ | rfl
          · have := (hvB k h4).2; have := hk.1.2; omega
          · exact absurd hk.2 (by omega)⟩) this
      · rw [List.getElem?_append_right (by rw [o1.1]; omega), o1.1, Nat.add_sub_cancel_left]; exact hu
  | i + 1, hc' =>
    have := c'.move (w' := w') (hmv (fun k hk _ e => by have := (hvB k e).2; have := hk.1.2; omega)) (c'.bound (s3 (i + 2) c' (by simpa using hc')))
    exact c'.mono (fun k hk => ⟨hk.1.1, by dsimp only; rw [if_neg (by have := hk.2; omega), hk.1.2]; omega⟩) this

/-- A row made of a literal's cells, or zero by zero. -/
theorem Star.lit {α : Type} {e : TypeId} {d : Kn α} {xs : List α} {news : List Value} {cs : List Ck} {w0 w : World} {B : Nat} (h : Star (Ck.inn d xs news :: cs) w0 B w) (hm : xs.length ≤ maxLen) :
    Star (Ck.row e d (.slice (some ⟨w.heap.size, 0, none⟩) xs.length xs.length) xs :: cs) w0 B (w.alloc (.cells news.toArray e)) :=
  h.turn fun F hF hlt => ⟨⟨rfl, rfl, rfl, by simp⟩, Same.alloc _ _ _, .inr ⟨w.heap.size, xs.length, news.toArray, rfl, .inr (Nat.le_refl _), heap_alloc_new w _, Nat.le_refl _, hm, by simpa using hF.1, by
    refine hF.2.imp (fun x c hx => ?_) (fun k u hu => by simpa using hu)
    exact d.mono (fun k hk => ⟨.inl hk, fun e => by have := hlt k hk; omega⟩) (d.move (Same.alloc _ _ _) hx)⟩⟩

theorem inn_scalar {α : Type} (enc : α → Value) (h1 : ∀ x, (enc x).oneCell' = true) (xs : List α) (w : World) (F : Fp) : (Ck.inn (.scalar enc h1) xs (xs.map enc)).holds w F :=
  ⟨by simp [Kn.scalar], Els.of_scalar xs fun i hi => by simp [hi]⟩

/-- A row is read. -/
theorem row_rep {α : Type} {e : TypeId} {d : Kn α} {v : Value} {xs : List α} {w : World} {F : Fp} (h : (Ck.row e d v xs).holds w F) : (Kn.slice d).rep w F xs [v] := by
  rcases h with ⟨rfl, rfl⟩ | ⟨g, cap, cur, rfl, h2, h3, h4, h5, h6, h7⟩
  · exact ⟨none, 0, rfl, fun _ => rfl, Nat.le_refl _, by simp, .inl rfl⟩
  · refine ⟨_, cap, rfl, fun e => by simp at e, h4, Nat.le_trans h4 h5, .inr ⟨_, rfl, h2, (Array.getElem?_eq_some_iff.1 h3).1, h7.imp (fun x c hx => d.mono (fun k hk => hk.1) hx) (fun k u hu => ?_)⟩⟩
    rw [show (⟨g, 0, none⟩ : Addr).add k = ⟨g, k, none⟩ by unfold Addr.add; split <;> simp_all, cell_of_row w g k cur e (0, 0) h3]
    exact hu

theorem Star.row_rd {α : Type} {e : TypeId} {d : Kn α} {v : Value} {xs : List α} {cs : List Ck} {w0 w : World} {B : Nat} (h : Star (Ck.row e d v xs :: cs) w0 B w) : (Kn.slice d).rd w xs [v] :=
  Kn.rd_of (row_rep h.head)

/-- Its shape, where there is an element. -/
theorem Star.row_form {α : Type} {e : TypeId} {d : Kn α} {v : Value} {xs : List α} {cs : List Ck} {w0 w : World} {B : Nat} (h : Star (Ck.row e d v xs :: cs) w0 B w) (hn : 0 < xs.length) :
    ∃ g cap, v = .slice (some ⟨g, 0, none⟩) xs.length cap ∧ xs.length ≤ cap ∧ xs.length ≤ maxLen ∧ B ≤ g ∧ g < w.heap.size ∧ ∀ j, w.frozen? ⟨g, j, none⟩ = false := by
  rcases h.head with ⟨rfl, rfl⟩ | ⟨g, cap, cur, rfl, h2, h3, h4, h5, h6, h7⟩
  · simp at hn
  · exact ⟨g, cap, rfl, h4, Nat.le_trans h4 h5, h2, (Array.getElem?_eq_some_iff.1 h3).1, fun j => by simp [World.frozen?, h3]⟩

/-- An element of one cell is stored into a row. -/
theorem Star.set_row {α : Type} {e : TypeId} {enc : α → Value} {h1 : ∀ x, (enc x).oneCell' = true} {g cap n : Nat} {xs : List α} {cs : List Ck} {w0 w : World} {B : Nat}
    (h : Star (Ck.row e (.scalar enc h1) (.slice (some ⟨g, 0, none⟩) n cap) xs :: cs) w0 B w) (i : Nat) (x : α) :
    Star (Ck.row e (.scalar enc h1) (.slice (some ⟨g, 0, none⟩) n cap) (xs.set i x) :: cs) w0 B (w.setCell ⟨g, i, none⟩ (enc x)) :=
  h.turn fun F hF _ => by
    rcases hF with ⟨h0, _⟩ | ⟨g', cap', cur, h0, h2, h3, h4, h5, h6, h7⟩
    · cases h0
    · simp only [Value.slice.injEq, Option.some.injEq, Addr.mk.injEq] at h0
      obtain ⟨⟨rfl, _⟩, rfl, rfl⟩ := h0
      refine ⟨⟨rfl, rfl, rfl, by simp [World.setCell]⟩, Same.setCell (p := ⟨g, i, none⟩) (fun hn => hn h2) _, .inr ⟨g, cap, cur.setIfInBounds i (enc x), by simp, .inl h2, heap_setCell_same h3 _ _, by simpa using h4, h5, by simpa using h6, ?_⟩⟩
      by_cases hi : i < xs.length
      · refine h7.set (n := i) (y := x) (c := [enc x]) rfl rfl (by simp [Kn.scalar]) (fun j u hu => ?_) (fun k u hk hu => ?_)
        · match j, hu with
          | 0, hu =>
            have : i < cur.size := by rw [h6]; simp [Kn.scalar]; omega
            simp only [Kn.scalar, Nat.mul_one, Nat.add_zero, Array.getElem?_setIfInBounds_self, this, if_true]
            simpa using hu
          | j + 1, hu => simp at hu
        · simp only [Kn.scalar, Nat.div_one] at hk
          rw [Array.getElem?_setIfInBounds_ne (by omega)]
          exact hu
      · rw [List.set_eq_of_length_le (by omega)]
        refine h7.imp_lt (fun _ _ h => h) (fun k u hk hu => ?_)
        simp only [Kn.scalar, Nat.mul_one] at hk
        rw [Array.getElem?_setIfInBounds_ne (by omega)]
        exact hu

end Go.Proofs.Ytihfikepfhcboaa
