/-
  Lemmas of this claim's own: appends as steps of a walk.
-/
import Derived.Test.YtihfikepfhcboaaB
import Derived.Deep.Quiet
namespace Go.Proofs.Ytihfikepfhcboaa
open Go.RowKit

section
variable {α : Type} {P : Program} {ops : Array Oper} {rest : List Oper} {o : Oper} {a : Act} {Q : Exit → Act → World → Prop}
variable {e : TypeId} {d : Kn α} {v : Value} {xs : List α} {cs : List Ck} {w0 W : World} {B : Nat}

/-- append(s, ys...): ys's cells are told. -/
theorem app_wp {K : Act → World → Prop} (s x : Operand) (t : TypeId) (z : Value) (bytes : Nat)
    (ho : o.op = .call { callee := .builtin .append, args := #[s, x], argTypes := #[t, t] })
    (ht : P.underlying t = some (.slice e)) (hinfo : (P.info? e).map (fun i => (i.zero, i.size, i.bytes)) = some (some z, d.sz, bytes)) (hz : z.cells.size = d.sz) (hs0 : 0 < d.sz) (hb0 : 0 < bytes)
    {ys : List α} {news : List Value} (h : Star (Ck.row e d v xs :: Ck.inn d ys news :: cs) w0 B W) (hs : a.eval s = v) (ad : Addr) (c : Nat) (hx : a.eval x = .slice (some ad) ys.length c)
    (hnews : ∀ j u, news[j]? = some u → W.cell? (ad.add j) = some u) (hl : (xs.length + ys.length) * bytes ≤ 140737488355328)
    (k : ∀ v' w', Star (Ck.row e d v' (xs ++ ys) :: cs) w0 B w' → W.heap.size ≤ w'.heap.size → (v' = .slice none 0 0 ↔ v = .slice none 0 0 ∧ ys.length = 0) → K (a.put o.dst v') w') : o.wp P a W K Q := by
  obtain ⟨v', w', hr, h1, h2, h3⟩ := h.append_run t o.type z bytes ht hinfo hz hs0 hb0 ad c hnews hl
  unfold Oper.wp execOp
  simp only [ho, resolve, invoke, builtin, Sem.run_bind, Sem.run_pure, Result.andThen_ok, List.map_toArray, List.map_cons, List.map_nil, hs, hx, hr]
  exact k v' w' h1 h2 h3

/-- append(s, x), x in a box of its own. -/
theorem app1_wp {K : Act → World → Prop} (s x : Operand) (t : TypeId) (z : Value) (bytes : Nat)
    (ho : o.op = .call { callee := .builtin .append, args := #[s, x], argTypes := #[t, t] })
    (ht : P.underlying t = some (.slice e)) (hinfo : (P.info? e).map (fun i => (i.zero, i.size, i.bytes)) = some (some z, d.sz, bytes)) (hz : z.cells.size = d.sz) (hs0 : 0 < d.sz) (hb0 : 0 < bytes)
    {y : α} {news : List Value} (h : Star (Ck.row e d v xs :: Ck.inn d [y] news :: cs) w0 B W) (hs : a.eval s = v) (hx : a.eval x = .slice (some ⟨W.heap.size, 0, none⟩) 1 1)
    (hl : (xs.length + 1) * bytes ≤ 140737488355328)
    (k : ∀ v' w', Star (Ck.row e d v' (xs ++ [y]) :: cs) w0 B w' → W.heap.size < w'.heap.size → K (a.put o.dst v') w') : o.wp P a (W.alloc (.cells news.toArray e)) K Q :=
  app_wp s x t z bytes ho ht hinfo hz hs0 hb0 (h.alloc _) hs ⟨W.heap.size, 0, none⟩ 1 hx (fun j u hu => by
    rw [Addr.add_lit, Nat.zero_add, cell_of_row _ _ j news.toArray e (0, 0) (heap_alloc_new W _)]; simpa using hu) hl (fun v' w' h1 h2 _ => k v' w' h1 (by simp at h2; omega))

theorem app1 (hgd : o.guard = none) (s x : Operand) (t : TypeId) (z : Value) (bytes : Nat)
    (ho : o.op = .call { callee := .builtin .append, args := #[s, x], argTypes := #[t, t] })
    (ht : P.underlying t = some (.slice e)) (hinfo : (P.info? e).map (fun i => (i.zero, i.size, i.bytes)) = some (some z, d.sz, bytes)) (hz : z.cells.size = d.sz) (hs0 : 0 < d.sz) (hb0 : 0 < bytes)
    {y : α} {news : List Value} (h : Star (Ck.row e d v xs :: Ck.inn d [y] news :: cs) w0 B W) (hs : a.eval s = v) (hx : a.eval x = .slice (some ⟨W.heap.size, 0, none⟩) 1 1)
    (hl : (xs.length + 1) * bytes ≤ 140737488355328)
    (k : ∀ v' w', Star (Ck.row e d v' (xs ++ [y]) :: cs) w0 B w' → W.heap.size < w'.heap.size → wpList P ops Q rest (a.put o.dst v') w') : wpList P ops Q (o :: rest) a (W.alloc (.cells news.toArray e)) :=
  wpList_plain hgd fun _ hK => app1_wp s x t z bytes ho ht hinfo hz hs0 hb0 h hs hx hl fun v' w' h1 h2 => hK _ _ (k v' w' h1 h2)

/-- The same as a step of a region that draws. -/
theorem app1_step {K : Act → World → Prop} {E : Prop} (hgd : o.guard = none) (s x : Operand) (t : TypeId) (z : Value) (bytes : Nat)
    (ho : o.op = .call { callee := .builtin .append, args := #[s, x], argTypes := #[t, t] })
    (ht : P.underlying t = some (.slice e)) (hinfo : (P.info? e).map (fun i => (i.zero, i.size, i.bytes)) = some (some z, d.sz, bytes)) (hz : z.cells.size = d.sz) (hs0 : 0 < d.sz) (hb0 : 0 < bytes)
    {y : α} {news : List Value} (h : Star (Ck.row e d v xs :: Ck.inn d [y] news :: cs) w0 B W) (hs : a.eval s = v) (hx : a.eval x = .slice (some ⟨W.heap.size, 0, none⟩) 1 1)
    (hl : (xs.length + 1) * bytes ≤ 140737488355328)
    (k : ∀ v' w', Star (Ck.row e d v' (xs ++ [y]) :: cs) w0 B w' → W.heap.size < w'.heap.size → K (a.put o.dst v') w') :
    if Region.wanted o (yielded ops a.tmps) = true then o.wp P a (W.alloc (.cells news.toArray e)) K Q else E := by
  rw [if_pos (by simp [Region.wanted, hgd])]
  exact app1_wp s x t z bytes ho ht hinfo hz hs0 hb0 h hs hx hl k

/-- append(s, ys...), ys a slice of scalars that is read, nil let in. -/
theorem appS_wp {K : Act → World → Prop} {enc : α → Value} {h1 : ∀ x, (enc x).oneCell' = true} (s x : Operand) (t : TypeId) (z : Value) (bytes : Nat)
    (ho : o.op = .call { callee := .builtin .append, args := #[s, x], argTypes := #[t, t] })
    (ht : P.underlying t = some (.slice e)) (hinfo : (P.info? e).map (fun i => (i.zero, i.size, i.bytes)) = some (some z, 1, bytes)) (hz : z.cells.size = 1) (hb0 : 0 < bytes)
    (h : Star (Ck.row e (.scalar enc h1) v xs :: cs) w0 B W) (hs : a.eval s = v) {ys : List α} {u : Value} (hx : a.eval x = u) (hy : (Kn.slice (.scalar enc h1)).rd W ys [u]) (hl : (xs.length + ys.length) * bytes ≤ 140737488355328)
    (k : ∀ v' w', Star (Ck.row e (.scalar enc h1) v' (xs ++ ys) :: cs) w0 B w' → W.heap.size ≤ w'.heap.size → (v' = .slice none 0 0 → v = .slice none 0 0 ∧ ys = []) → K (a.put o.dst v') w') : o.wp P a W K Q := by
  obtain ⟨A, c, he, hnc, hyc, _, hcell⟩ := hy
  simp only [List.cons.injEq, and_true] at he
  subst he
  rcases A with _ | ad
  · obtain rfl : ys = [] := by
      rcases hcell with h | ⟨ad, h, _⟩
      · exact h
      · cases h
    obtain ⟨i0, hi, hzz⟩ := Option.map_eq_some_iff.1 hinfo
    obtain ⟨inner, o1, _⟩ := row_owns h.head
    obtain rfl : c = 0 := hnc rfl
    have hr := run_append_owned_none (P := P) W 0 t o.type e i0 1 ht hi v xs.length inner o1
    unfold Oper.wp execOp
    simp only [ho, resolve, invoke, builtin, Sem.run_bind, Sem.run_pure, Result.andThen_ok, List.map_toArray, List.map_cons, List.map_nil, hs, hx, List.length_nil, hr]
    exact k v W (by simpa using h) (Nat.le_refl _) (fun e => ⟨e, rfl⟩)
  · refine app_wp s x t z bytes ho ht hinfo hz Nat.one_pos hb0 (h.free2 (c := Ck.inn (.scalar enc h1) ys (ys.map enc)) fun F => inn_scalar enc h1 ys W F) hs ad c hx ?_ hl (fun v' w' h2 h3 h4 => k v' w' h2 h3 fun e => ⟨(h4.1 e).1, List.eq_nil_of_length_eq_zero (h4.1 e).2⟩)
    intro j u hu
    rcases hcell with rfl | ⟨ad', he, _, _, hE⟩
    · simp at hu
    · simp only [Option.some.injEq] at he
      subst he
      obtain ⟨hj, rfl⟩ := List.getElem?_eq_some_iff.1 hu
      obtain ⟨cc, h5, _, h6⟩ := hE j (by simpa using hj)
      have := h6 0 (enc (ys[j]'(by simpa using hj))) (by rw [h5]; rfl)
      simpa [Kn.scalar] using this

theorem appS (hgd : o.guard = none) {enc : α → Value} {h1 : ∀ x, (enc x).oneCell' = true} (s x : Operand) (t : TypeId) (z : Value) (bytes : Nat)
    (ho : o.op = .call { callee := .builtin .append, args := #[s, x], argTypes := #[t, t] })
    (ht : P.underlying t = some (.slice e)) (hinfo : (P.info? e).map (fun i => (i.zero, i.size, i.bytes)) = some (some z, 1, bytes)) (hz : z.cells.size = 1) (hb0 : 0 < bytes)
    (h : Star (Ck.row e (.scalar enc h1) v xs :: cs) w0 B W) (hs : a.eval s = v) {ys : List α} {u : Value} (hx : a.eval x = u) (hy : (Kn.slice (.scalar enc h1)).rd W ys [u]) (hl : (xs.length + ys.length) * bytes ≤ 140737488355328)
    (k : ∀ v' w', Star (Ck.row e (.scalar enc h1) v' (xs ++ ys) :: cs) w0 B w' → W.heap.size ≤ w'.heap.size → (v' = .slice none 0 0 → v = .slice none 0 0 ∧ ys = []) → wpList P ops Q rest (a.put o.dst v') w') : wpList P ops Q (o :: rest) a W :=
  wpList_plain hgd fun _ hK => appS_wp s x t z bytes ho ht hinfo hz hb0 h hs hx hy hl fun v' w' h1 h2 h3 => hK _ _ (k v' w' h1 h2 h3)

end

/-- A literal of numbers. -/
theorem Star.nums {cs : List Ck} {w0 w : World} {B : Nat} (h : Star cs w0 B w) (e : TypeId) (k : IntKind) (xs : List Int) (hm : xs.length ≤ maxLen) :
    Star (Ck.row e (.int k) (.slice (some ⟨w.heap.size, 0, none⟩) xs.length xs.length) xs :: cs) w0 B (w.alloc (.cells (xs.map (Value.int k)).toArray e)) :=
  (h.free (c := Ck.inn (.int k) xs (xs.map (Value.int k))) fun F => inn_scalar _ _ xs w F).lit hm
theorem Star.num1 {cs : List Ck} {w0 w : World} {B : Nat} (h : Star cs w0 B w) (e : TypeId) (k : IntKind) (x : Int) :
    Star (Ck.row e (.int k) (.slice (some ⟨w.heap.size, 0, none⟩) 1 1) [x] :: cs) w0 B (w.alloc (.cells #[.int k x] e)) := h.nums e k [x] (by simp [maxLen])
theorem Star.nilrow {α : Type} {cs : List Ck} {w0 w : World} {B : Nat} (h : Star cs w0 B w) (e : TypeId) (d : Kn α) : Star (Ck.row e d (.slice none 0 0) [] :: cs) w0 B w := h.free fun _ => .inl ⟨rfl, rfl⟩

theorem below_drewN {B : Nat} {w W : World} (h : Below B w W) (n : Nat) : Below B w (W.drewN n) := ⟨h.os, h.tape, h.output, h.size, h.block⟩
theorem below_drew {B : Nat} {w W : World} (h : Below B w W) : Below B w W.drew := ⟨h.os, h.tape, h.output, h.size, h.block⟩
theorem Star.drewN {cs : List Ck} {w0 w : World} {B : Nat} (h : Star cs w0 B w) (n : Nat) : Star cs w0 B (w.drewN n) := h.go (below_drewN (Below.refl _ _) n)

/-! ### Reading -/
/-- A slice's value, and its i-th element's cells. -/
theorem rd_slice {α : Type} {d : Kn α} {w : World} {xs : List α} {v : Value} (h : (Kn.slice d).rd w xs [v]) : ∃ A c, v = .slice A xs.length c ∧ xs.length ≤ c ∧ xs.length ≤ maxLen ∧ (A = none → c = 0) := by
  obtain ⟨A, c, he, h0, h1, h2, _⟩ := h
  simp only [List.cons.injEq, and_true] at he
  exact ⟨A, c, he, h1, h2, h0⟩

theorem rd_get {α : Type} {d : Kn α} {w : World} {xs : List α} {A : Option Addr} {n c : Nat} (h : (Kn.slice d).rd w xs [.slice A n c]) (i : Nat) (hi : i < xs.length) :
    ∃ ad cl, A = some ad ∧ d.rd w xs[i] cl ∧ cl.length = d.sz ∧ ∀ j u, cl[j]? = some u → w.cell? (ad.add (i * d.sz + j)) = some u := by
  obtain ⟨A', c', he, h0, h1, h2, h3⟩ := h
  simp only [List.cons.injEq, and_true, Value.slice.injEq] at he
  obtain ⟨rfl, _, _⟩ := he
  rcases h3 with rfl | ⟨ad, rfl, _, _, hE⟩
  · simp at hi
  · obtain ⟨cl, h4, h5, h6⟩ := hE i hi
    exact ⟨ad, cl, rfl, h4, h5, h6⟩

/-- One cell an element. -/
theorem rd_get1 {α : Type} {enc : α → Value} {h1 : ∀ x, (enc x).oneCell' = true} {w : World} {xs : List α} {A : Option Addr} {n c : Nat} (h : (Kn.slice (.scalar enc h1)).rd w xs [.slice A n c]) (i : Nat) (hi : i < xs.length) :
    ∃ ad, A = some ad ∧ w.cell? (ad.add i) = some (enc xs[i]) := by
  obtain ⟨ad, cl, h2, h3, _, h5⟩ := rd_get h i hi
  refine ⟨ad, h2, ?_⟩
  have := h5 0 (enc xs[i]) (by rw [show cl = [enc xs[i]] from h3]; rfl)
  simpa [Kn.scalar] using this

theorem add_field (ad : Addr) (m j : Nat) : ad.add (m + (j + 1)) = ⟨(ad.add m).block, (ad.add m).off + (j + 1), none⟩ := by
  unfold Addr.add
  by_cases h : m = 0
  · simp [h]
  · simp [h]; omega

/-- Several cells an element. -/
theorem rd_getS {α : Type} {d : Kn α} {w : World} {xs : List α} {A : Option Addr} {n c : Nat} (h : (Kn.slice d).rd w xs [.slice A n c]) (s : Nat) (hs : d.sz = s) (i : Nat) (hi : i < xs.length) :
    ∃ ad cl, A = some ad ∧ d.rd w xs[i] cl ∧ (∀ u, cl[0]? = some u → w.cell? (ad.add (i * s)) = some u) ∧
      ∀ j u, cl[j + 1]? = some u → w.cell? ⟨(ad.add (i * s)).block, (ad.add (i * s)).off + (j + 1), none⟩ = some u := by
  subst hs
  obtain ⟨ad, cl, h1, h2, _, h4⟩ := rd_get h i hi
  exact ⟨ad, cl, h1, h2, fun u hu => h4 0 u hu, fun j u hu => by rw [← add_field]; exact h4 (j + 1) u hu⟩

/-- Fresh results: a row. -/
def RetRow {α : Type} (e : TypeId) (d : Kn α) (xs : List α) (w : World) : Ending → World → Prop := fun en w' => ∃ v, en = .returned v ∧ Star [Ck.row e d v xs] w w.heap.size w'

end Go.Proofs.Ytihfikepfhcboaa
