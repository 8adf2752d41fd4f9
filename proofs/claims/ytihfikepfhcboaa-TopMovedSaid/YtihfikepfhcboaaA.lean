/-
  Lemmas of this claim's own: kinds (what a Go value's cells say of a Lean value), chunks of memory with a footprint, and their separating conjunction 'Star'. No program in sight.
-/
import Derived.Below
import Derived.Laws.OwnMore
import Derived.Laws.MakeOwn
import Derived.Maps.AppendAt
import Derived.Tactics
import Derived.Tactics2
namespace Go.Proofs.Ytihfikepfhcboaa
open Go.RowKit

theorem hid {p : Prop} (h : p) : Hid p := h

/-- A set of blocks. -/
abbrev Fp := Nat → Prop

/-- Blocks of F are in w' what they are in w. -/
def Same (F : Fp) (w w' : World) : Prop := ∀ k, F k → k < w.heap.size → w'.heap[k]? = w.heap[k]?

theorem Same.of_below {F : Fp} {B : Nat} {w w' : World} (h : Below B w w') (hF : ∀ k, F k → k < w.heap.size → k < B) : Same F w w' :=
  fun k hk hl => h.block k (hF k hk hl)
theorem Same.of_below' {F : Fp} {w w' : World} (h : Below w.heap.size w w') : Same F w w' := fun k _ hl => h.block k hl
theorem Same.alloc (F : Fp) (w : World) (o : Obj) : Same F w (w.alloc o) := fun k _ hl => Below.heap_alloc w o k hl
theorem Same.drew (F : Fp) (w : World) : Same F w w.drew := fun _ _ _ => rfl
theorem Same.setCell {F : Fp} {w : World} {p : Addr} (h : ¬ F p.block) (u : Value) : Same F w (w.setCell p u) :=
  fun k hk _ => Below.heap_setCell w p u k (fun e => h (e ▸ hk))

theorem Same.cell {F : Fp} {w w' : World} (h : Same F w w') {p : Addr} {v : Value} (hF : F p.block) (hc : w.cell? p = some v) : w'.cell? p = some v :=
  (World.cell?_of_block (h p.block hF (World.block_lt_of_cell? w p hc))).trans hc

/-! ### Kinds -/
/-- A kind: how many cells; what cells, with blocks of a footprint, say of a Lean value. -/
structure Kn (α : Type) where
  sz : Nat
  rep : World → Fp → α → List Value → Prop
  len : ∀ {w F x cs}, rep w F x cs → cs.length = sz
  one : ∀ {w F x cs}, rep w F x cs → ∀ u ∈ cs, u.oneCell' = true
  mono : ∀ {w x cs} {F F' : Fp}, (∀ k, F k → F' k) → rep w F x cs → rep w F' x cs
  move : ∀ {w w' F x cs}, Same F w w' → rep w F x cs → rep w' F x cs
  bound : ∀ {w : World} {F : Fp} {x cs}, rep w F x cs → rep w (fun k => F k ∧ k < w.heap.size) x cs

/-- Any footprint. -/
abbrev Any : Fp := fun _ => True

/-- Read in the world at hand. -/
def Kn.rd {α : Type} (d : Kn α) (w : World) (x : α) (cs : List Value) : Prop := d.rep w Any x cs

theorem Kn.rd_of {α : Type} {d : Kn α} {w : World} {F : Fp} {x : α} {cs : List Value} (h : d.rep w F x cs) : d.rd w x cs := d.mono (fun _ _ => trivial) h

theorem Kn.rd_below {α : Type} {d : Kn α} {w w' : World} {x : α} {cs : List Value} (h : d.rd w x cs) (hb : Below w.heap.size w w') : d.rd w' x cs :=
  d.move (Same.of_below' hb) h

/-- What is read holds with the footprint of all blocks that there are. -/
theorem Kn.rd_rep {α : Type} {d : Kn α} {w : World} {x : α} {cs : List Value} (h : d.rd w x cs) : d.rep w (fun k => k < w.heap.size) x cs :=
  d.mono (fun _ hk => hk.2) (d.bound h)

/-- A kind of one cell, no memory. -/
def Kn.scalar {α : Type} (enc : α → Value) (h1 : ∀ x, (enc x).oneCell' = true) : Kn α where
  sz := 1
  rep := fun _ _ x cs => cs = [enc x]
  len := fun h => by rw [h]; rfl
  one := fun h u hu => by rw [h] at hu; rw [List.mem_singleton.1 hu]; exact h1 _
  mono := fun _ h => h
  move := fun _ h => h
  bound := fun h => h

def Kn.int (k : IntKind) : Kn Int := .scalar (Value.int k) fun _ => rfl
def Kn.bool : Kn Bool := .scalar Value.bool fun _ => rfl
def Kn.str : Kn ByteArray := .scalar Value.string fun _ => rfl

/-- Elements of so many cells each, told by what stands at each place. -/
def Els {α : Type} (R : α → List Value → Prop) (size : Nat) (xs : List α) (get : Nat → Option Value) : Prop :=
  ∀ i (h : i < xs.length), ∃ c, R xs[i] c ∧ c.length = size ∧ ∀ j u, c[j]? = some u → get (i * size + j) = some u

section
variable {α : Type} {R R' : α → List Value → Prop} {size : Nat} {xs ys : List α} {get get' : Nat → Option Value}
theorem Els.nil (R : α → List Value → Prop) (size : Nat) (get : Nat → Option Value) : Els R size [] get := fun i h => absurd h (by simp)
theorem Els.imp (h : Els R size xs get) (hR : ∀ x c, R x c → R' x c) (hg : ∀ k u, get k = some u → get' k = some u) : Els R' size xs get' := fun i hi => by
  obtain ⟨c, h1, h2, h3⟩ := h i hi
  exact ⟨c, hR _ _ h1, h2, fun j u hu => hg _ _ (h3 j u hu)⟩
/-- As far as it is told. -/
theorem Els.imp_lt (h : Els R size xs get) (hR : ∀ x c, R x c → R' x c) (hg : ∀ k u, k < xs.length * size → get k = some u → get' k = some u) : Els R' size xs get' := fun i hi => by
  obtain ⟨c, h1, h2, h3⟩ := h i hi
  refine ⟨c, hR _ _ h1, h2, fun j u hu => hg _ _ ?_ (h3 j u hu)⟩
  have hj : j < size := h2 ▸ (List.getElem?_eq_some_iff.1 hu).1
  have : (i + 1) * size ≤ xs.length * size := Nat.mul_le_mul_right _ hi
  rw [Nat.succ_mul] at this
  omega
theorem Els.take (h : Els R size xs get) (n : Nat) : Els R size (xs.take n) get := fun i hi => by
  have hi' : i < xs.length := by rw [List.length_take] at hi; omega
  obtain ⟨c, h1, h2, h3⟩ := h i hi'
  exact ⟨c, by rw [List.getElem_take]; exact h1, h2, h3⟩
theorem Els.drop (h : Els R size xs get) (n : Nat) : Els R size (xs.drop n) (fun k => get (n * size + k)) := fun i hi => by
  have hi' : n + i < xs.length := by rw [List.length_drop] at hi; omega
  obtain ⟨c, h1, h2, h3⟩ := h (n + i) hi'
  refine ⟨c, by rw [List.getElem_drop]; exact h1, h2, fun j u hu => ?_⟩
  have := h3 j u hu
  rw [Nat.add_mul, Nat.add_assoc] at this
  exact this
theorem Els.append (h : Els R size xs get) (h' : Els R size ys (fun k => get (xs.length * size + k))) : Els R size (xs ++ ys) get := fun i hi => by
  by_cases hlt : i < xs.length
  · obtain ⟨c, h1, h2, h3⟩ := h i hlt
    exact ⟨c, by rw [List.getElem_append_left hlt]; exact h1, h2, h3⟩
  · have hi' : i - xs.length < ys.length := by rw [List.length_append] at hi; omega
    obtain ⟨c, h1, h2, h3⟩ := h' (i - xs.length) hi'
    refine ⟨c, by rw [List.getElem_append_right (by omega)]; exact h1, h2, fun j u hu => ?_⟩
    have := h3 j u hu
    rw [show i * size + j = xs.length * size + ((i - xs.length) * size + j) by rw [← Nat.add_assoc, ← Nat.add_mul]; congr 2; omega]
    exact this
theorem Els.one {x : α} {c : List Value} (h : R x c) (hl : c.length = size) (hg : ∀ j u, c[j]? = some u → get j = some u) : Els R size [x] get := fun i hi => by
  obtain rfl : i = 0 := by simpa using hi
  exact ⟨c, h, hl, fun j u hu => by rw [Nat.zero_mul, Nat.zero_add]; exact hg j u hu⟩
theorem Els.snoc {x : α} {c : List Value} (h : Els R size xs get) (hx : R x c) (hl : c.length = size) (hg : ∀ j u, c[j]? = some u → get (xs.length * size + j) = some u) : Els R size (xs ++ [x]) get :=
  h.append (Els.one hx hl hg)
theorem Els.set {n : Nat} {y : α} {c : List Value} (h : Els R size xs get) (hy : R y c) (hl : c.length = size) (hs : 0 < size)
    (hg : ∀ j u, c[j]? = some u → get' (n * size + j) = some u) (ho : ∀ k u, k / size ≠ n → get k = some u → get' k = some u) : Els R size (xs.set n y) get' := fun i hi => by
  have hi' : i < xs.length := by simpa using hi
  by_cases e : i = n
  · subst e
    exact ⟨c, by rw [List.getElem_set_self]; exact hy, hl, hg⟩
  · obtain ⟨c', h1, h2, h3⟩ := h i hi'
    refine ⟨c', by rw [List.getElem_set_ne (by omega)]; exact h1, h2, fun j u hu => ho _ _ ?_ (h3 j u hu)⟩
    have hj : j < size := h2 ▸ (List.getElem?_eq_some_iff.1 hu).1
    rw [Nat.mul_comm, Nat.mul_add_div hs, Nat.div_eq_of_lt hj]
    omega
/-- Cells of a list, one element behind the other. -/
theorem Els.of_scalar {enc : α → Value} (xs : List α) {get : Nat → Option Value} (hg : ∀ i (h : i < xs.length), get i = some (enc xs[i])) : Els (fun x cs => cs = [enc x]) 1 xs get := fun i hi =>
  ⟨[enc xs[i]], rfl, rfl, fun j u hu => by
    match j, hu with
    | 0, hu => rw [Nat.mul_one, Nat.add_zero, hg i hi]; simpa using hu
    | j + 1, hu => simp at hu⟩
end

theorem add_block (ad : Addr) (j : Nat) : (ad.add j).block = ad.block := by unfold Addr.add; split <;> rfl

/-- A slice that is read: wherever it lies. -/
def Kn.slice {α : Type} (d : Kn α) : Kn (List α) where
  sz := 1
  rep := fun w F xs cs => ∃ A c, cs = [.slice A xs.length c] ∧ (A = none → c = 0) ∧ xs.length ≤ c ∧ xs.length ≤ maxLen ∧
    (xs = [] ∨ ∃ ad, A = some ad ∧ F ad.block ∧ ad.block < w.heap.size ∧ Els (d.rep w F) d.sz xs (fun k => w.cell? (ad.add k)))
  len := by rintro w F x cs ⟨A, c, rfl, _⟩; rfl
  one := by
    rintro w F x cs ⟨A, c, rfl, _⟩ u hu
    rw [List.mem_singleton.1 hu]; rfl
  mono := by
    rintro w x cs F F' hF ⟨A, c, rfl, h0, h1, h2, h3⟩
    refine ⟨A, c, rfl, h0, h1, h2, h3.imp id ?_⟩
    rintro ⟨ad, h4, h5, h6, h7⟩
    exact ⟨ad, h4, hF _ h5, h6, h7.imp (fun _ _ h => d.mono hF h) (fun _ _ h => h)⟩
  move := by
    rintro w w' F x cs hS ⟨A, c, rfl, h0, h1, h2, h3⟩
    refine ⟨A, c, rfl, h0, h1, h2, h3.imp id ?_⟩
    rintro ⟨ad, h4, h5, h6, h7⟩
    refine ⟨ad, h4, h5, ?_, h7.imp (fun _ _ h => d.move hS h) (fun k u hu => hS.cell (by rw [add_block]; exact h5) hu)⟩
    have := hS ad.block h5 h6
    rw [Array.getElem?_eq_getElem h6] at this
    exact (Array.getElem?_eq_some_iff.1 this).1
  bound := by
    rintro w F x cs ⟨A, c, rfl, h0, h1, h2, h3⟩
    refine ⟨A, c, rfl, h0, h1, h2, h3.imp id ?_⟩
    rintro ⟨ad, h4, h5, h6, h7⟩
    exact ⟨ad, h4, ⟨h5, h6⟩, h6, h7.imp (fun _ _ h => d.bound h) (fun _ _ h => h)⟩

/-- Two in line. -/
def Kn.pair {α β : Type} (a : Kn α) (b : Kn β) : Kn (α × β) where
  sz := a.sz + b.sz
  rep := fun w F x cs => ∃ c0 c1, cs = c0 ++ c1 ∧ a.rep w F x.1 c0 ∧ b.rep w F x.2 c1
  len := by rintro w F x cs ⟨c0, c1, rfl, h0, h1⟩; rw [List.length_append, a.len h0, b.len h1]
  one := by
    rintro w F x cs ⟨c0, c1, rfl, h0, h1⟩ u hu
    rcases List.mem_append.1 hu with hu | hu
    · exact a.one h0 u hu
    · exact b.one h1 u hu
  mono := by rintro w x cs F F' hF ⟨c0, c1, rfl, h0, h1⟩; exact ⟨c0, c1, rfl, a.mono hF h0, b.mono hF h1⟩
  move := by rintro w w' F x cs hS ⟨c0, c1, rfl, h0, h1⟩; exact ⟨c0, c1, rfl, a.move hS h0, b.move hS h1⟩
  bound := by rintro w F x cs ⟨c0, c1, rfl, h0, h1⟩; exact ⟨c0, c1, rfl, a.bound h0, b.bound h1⟩

/-- A Lean structure by its fields. -/
def Kn.iso {α β : Type} (d : Kn α) (f : β → α) : Kn β where
  sz := d.sz
  rep := fun w F x cs => d.rep w F (f x) cs
  len := d.len
  one := d.one
  mono := d.mono
  move := d.move
  bound := d.bound

/-- A pointer to the whole of a block. -/
def Kn.ptr {α : Type} (T : TypeId) (d : Kn α) : Kn α where
  sz := 1
  rep := fun w F x cs => ∃ b cells, cs = [.pointer (some ⟨b, 0, none⟩)] ∧ F b ∧ w.heap[b]? = some (.cells cells T (0, 0)) ∧ d.rep w F x cells.toList
  len := by rintro w F x cs ⟨b, c, rfl, _⟩; rfl
  one := by
    rintro w F x cs ⟨b, c, rfl, _⟩ u hu
    rw [List.mem_singleton.1 hu]; rfl
  mono := by rintro w x cs F F' hF ⟨b, c, rfl, h1, h2, h3⟩; exact ⟨b, c, rfl, hF _ h1, h2, d.mono hF h3⟩
  move := by
    rintro w w' F x cs hS ⟨b, c, rfl, h1, h2, h3⟩
    exact ⟨b, c, rfl, h1, (hS b h1 (Array.getElem?_eq_some_iff.1 h2).1).trans h2, d.move hS h3⟩
  bound := by rintro w F x cs ⟨b, c, rfl, h1, h2, h3⟩; exact ⟨b, c, rfl, ⟨h1, (Array.getElem?_eq_some_iff.1 h2).1⟩, h2, d.bound h3⟩

/-! ### Chunks -/
structure Ck where
  holds : World → Fp → Prop
  mono : ∀ {w} {F F' : Fp}, (∀ k, F k → F' k) → holds w F → holds w F'
  move : ∀ {w w' F}, Same F w w' → holds w F → holds w' F
  bound : ∀ {w : World} {F : Fp}, holds w F → holds w (fun k => F k ∧ k < w.heap.size)

/-- A value that is read. -/
def Ck.val {α : Type} (d : Kn α) (x : α) (cs : List Value) : Ck where
  holds := fun w F => d.rep w F x cs
  mono := d.mono
  move := d.move
  bound := d.bound

/-- A block, cell by cell. -/
def Ck.blk (b : Nat) (cells : List Value) (T : TypeId) : Ck where
  holds := fun w F => F b ∧ w.heap[b]? = some (.cells cells.toArray T (0, 0))
  mono := fun hF h => ⟨hF _ h.1, h.2⟩
  move := fun hS h => ⟨h.1, (hS b h.1 (Array.getElem?_eq_some_iff.1 h.2).1).trans h.2⟩
  bound := fun h => ⟨⟨h.1, (Array.getElem?_eq_some_iff.1 h.2).1⟩, h.2⟩

/-- A row of one's own: it may be written and appended to. -/
def Ck.row {α : Type} (e : TypeId) (d : Kn α) (v : Value) (xs : List α) : Ck where
  holds := fun w F => (v = .slice none 0 0 ∧ xs = []) ∨ ∃ g cap cur, v = .slice (some ⟨g, 0, none⟩) xs.length cap ∧ F g ∧ w.heap[g]? = some (.cells cur e (0, 0)) ∧ xs.length ≤ cap ∧ cap ≤ maxLen ∧ cur.size = cap * d.sz ∧
    Els (d.rep w (fun k => F k ∧ k ≠ g)) d.sz xs (fun k => cur[k]?)
  mono := by
    rintro w F F' hF (h | ⟨g, cap, cur, h1, h2, h3, h4, h5, h6, h7⟩)
    · exact .inl h
    · exact .inr ⟨g, cap, cur, h1, hF _ h2, h3, h4, h5, h6, h7.imp (fun _ _ h => d.mono (fun k hk => ⟨hF _ hk.1, hk.2⟩) h) (fun _ _ h => h)⟩
  move := by
    rintro w w' F hS (h | ⟨g, cap, cur, h1, h2, h3, h4, h5, h6, h7⟩)
    · exact .inl h
    · exact .inr ⟨g, cap, cur, h1, h2, (hS g h2 (Array.getElem?_eq_some_iff.1 h3).1).trans h3, h4, h5, h6, h7.imp (fun _ _ h => d.move (fun k hk => hS k hk.1) h) (fun _ _ h => h)⟩
  bound := by
    rintro w F (h | ⟨g, cap, cur, h1, h2, h3, h4, h5, h6, h7⟩)
    · exact .inl h
    · exact .inr ⟨g, cap, cur, h1, ⟨h2, (Array.getElem?_eq_some_iff.1 h3).1⟩, h3, h4, h5, h6, h7.imp (fun _ _ h => d.mono (fun k hk => ⟨⟨hk.1.1, hk.2⟩, hk.1.2⟩) (d.bound h)) (fun _ _ h => h)⟩

/-- Nothing. -/
def Ck.emp : Ck where
  holds := fun _ _ => True
  mono := fun _ h => h
  move := fun _ h => h
  bound := fun h => h

/-! ### The separating conjunction -/
/-- Since w0 nothing below B has turned; the chunks hold, each with blocks of its own, from B on. -/
structure Star (cs : List Ck) (w0 : World) (B : Nat) (w : World) : Prop where
  below : Below B w0 w
  size : B ≤ w.heap.size
  own : ∃ own : Nat → Nat, ∀ (i : Nat) (c : Ck), cs[i]? = some c → c.holds w (fun k => B ≤ k ∧ own k = i)

theorem Star.nil (w : World) : Star [] w w.heap.size w := ⟨Below.refl _ _, Nat.le_refl _, fun _ => 0, fun i c h => by simp at h⟩

/-- The world goes on, fresh memory apart; a chunk more, of fresh memory. -/
theorem Star.fresh {cs : List Ck} {w0 w w' : World} {B : Nat} {c : Ck} (h : Star cs w0 B w) (hb : Below w.heap.size w w') (hc : c.holds w' (fun k => w.heap.size ≤ k)) : Star (c :: cs) w0 B w' := by
  obtain ⟨h1, h2, own, h3⟩ := h
  refine ⟨h1.trans (hb.mono h2), Nat.le_trans h2 hb.size, fun k => if w.heap.size ≤ k then 0 else own k + 1, fun i d hd => ?_⟩
  match i, hd with
  | 0, hd =>
    obtain rfl : c = d := by simpa using hd
    exact c.mono (fun k hk => ⟨Nat.le_trans h2 hk, by dsimp only; rw [if_pos hk]⟩) hc
  | i + 1, hd =>
    have := d.move (Same.of_below' hb) (d.bound (h3 i d (by simpa using hd)))
    exact d.mono (fun k hk => ⟨hk.1.1, by dsimp only; rw [if_neg (by have := hk.2; omega), hk.1.2]⟩) this

theorem Star.go {cs : List Ck} {w0 w w' : World} {B : Nat} (h : Star cs w0 B w) (hb : Below w.heap.size w w') : Star cs w0 B w' := by
  obtain ⟨h1, h2, own, h3⟩ := h
  refine ⟨h1.trans (hb.mono h2), Nat.le_trans h2 hb.size, own, fun i d hd => d.move (Same.of_below' hb) (h3 i d hd)⟩

theorem Star.drew {cs : List Ck} {w0 w : World} {B : Nat} (h : Star cs w0 B w) : Star cs w0 B w.drew := h.go (Below.refl _ _).drew

theorem Star.alloc {cs : List Ck} {w0 w : World} {B : Nat} (h : Star cs w0 B w) (o : Obj) : Star cs w0 B (w.alloc o) := h.go ((Below.refl _ _).alloc (Nat.le_refl _) o)

/-- What a call leaves, put beside what there was. -/
theorem Star.frame {cs ds : List Ck} {w0 w w' : World} {B : Nat} (h : Star cs w0 B w) (k : Star ds w w.heap.size w') : Star (ds ++ cs) w0 B w' := by
  obtain ⟨h1, h2, own, h3⟩ := h
  obtain ⟨k1, k2, own', k3⟩ := k
  refine ⟨h1.trans (k1.mono h2), Nat.le_trans h2 k1.size, fun b => if w.heap.size ≤ b then (if own' b < ds.length then own' b else ds.length) else own b + ds.length, fun i d hd => ?_⟩
  by_cases hi : i < ds.length
  · rw [List.getElem?_append_left hi] at hd
    exact d.mono (fun b hb => ⟨Nat.le_trans h2 hb.1, by dsimp only; rw [if_pos hb.1, if_pos (by rw [hb.2]; exact hi), hb.2]⟩) (k3 i d hd)
  · rw [List.getElem?_append_right (by omega)] at hd
    have := d.move (Same.of_below' k1) (d.bound (h3 _ d hd))
    exact d.mono (fun b hb => ⟨hb.1.1, by dsimp only; rw [if_neg (by have := hb.2; omega), hb.1.2]; omega⟩) this

/-- The head chunk is turned, by what touches its blocks and fresh ones alone. -/
theorem Star.turn {c c' : Ck} {cs : List Ck} {w0 w w' : World} {B : Nat} (h : Star (c :: cs) w0 B w)
    (hw : ∀ F : Fp, c.holds w F → (∀ k, F k → k < w.heap.size) → (w'.os = w.os ∧ w'.tape = w.tape ∧ w'.output = w.output ∧ w.heap.size ≤ w'.heap.size) ∧ Same (fun k => ¬ F k) w w' ∧ c'.holds w' (fun k => F k ∨ w.heap.size ≤ k)) :
    Star (c' :: cs) w0 B w' := by
  obtain ⟨h1, h2, own, h3⟩ := h
  obtain ⟨⟨g1, g2, g3, g4⟩, g5, g6⟩ := hw _ (c.bound (h3 0 c rfl)) (fun k hk => hk.2)
  refine ⟨h1.trans ⟨g1, g2, g3, g4, fun k hk => g5 k (fun hF => by have := hF.1.1; omega) (by omega)⟩, Nat.le_trans h2 g4, fun k => if w.heap.size ≤ k then 0 else own k, fun i d hd => ?_⟩
  match i, hd with
  | 0, hd =>
    obtain rfl : c' = d := by simpa using hd
    refine c'.mono (fun k hk => ?_) g6
    rcases hk with ⟨⟨hk1, hk2⟩, hk3⟩ | hk
    · exact ⟨hk1, by dsimp only; rw [if_neg (by omega), hk2]⟩
    · exact ⟨by omega, by dsimp only; rw [if_pos hk]⟩
  | i + 1, hd =>
    have := d.move (F := fun k => (B ≤ k ∧ own k = i + 1) ∧ k < w.heap.size) (w' := w') (fun k hk hl => g5 k (fun hF => by have := hF.1.2; have := hk.1.2; omega) hl) (d.bound (h3 (i + 1) d hd))
    exact d.mono (fun k hk => ⟨hk.1.1, by dsimp only; rw [if_neg (by have := hk.2; omega), hk.1.2]⟩) this

/-- What a chunk says, said in other words. -/
theorem Star.say {c c' : Ck} {cs : List Ck} {w0 w : World} {B : Nat} (h : Star (c :: cs) w0 B w) (hc : ∀ F, c.holds w F → c'.holds w F) : Star (c' :: cs) w0 B w :=
  h.turn fun F hF _ => ⟨⟨rfl, rfl, rfl, Nat.le_refl _⟩, fun _ _ _ => rfl, c'.mono (fun _ hk => .inl hk) (hc F hF)⟩

/-- Other places: the i-th of the new ones is the f i-th of the old ones. -/
theorem Star.pick {cs ds : List Ck} {w0 w : World} {B : Nat} (h : Star cs w0 B w) (f g : Nat → Nat) (hf : ∀ (i : Nat) (d : Ck), ds[i]? = some d → cs[f i]? = some d ∧ g (f i) = i) : Star ds w0 B w := by
  obtain ⟨h1, h2, own, h3⟩ := h
  refine ⟨h1, h2, fun k => g (own k), fun i d hd => ?_⟩
  obtain ⟨hc, hg⟩ := hf i d hd
  exact d.mono (fun k hk => ⟨hk.1, by dsimp only; rw [hk.2, hg]⟩) (h3 _ d hc)

theorem Star.tail {c : Ck} {cs : List Ck} {w0 w : World} {B : Nat} (h : Star (c :: cs) w0 B w) : Star cs w0 B w :=
  h.pick (· + 1) (· - 1) fun i d hd => ⟨by simpa using hd, by simp⟩

theorem Star.swap {c c' : Ck} {cs : List Ck} {w0 w : World} {B : Nat} (h : Star (c :: c' :: cs) w0 B w) : Star (c' :: c :: cs) w0 B w :=
  h.pick (fun i => if i = 0 then 1 else if i = 1 then 0 else i) (fun i => if i = 0 then 1 else if i = 1 then 0 else i) fun i d hd => by
    match i, hd with
    | 0, hd => exact ⟨by simpa using hd, by simp⟩
    | 1, hd => exact ⟨by simpa using hd, by simp⟩
    | i + 2, hd => exact ⟨by simpa using hd, by simp⟩

/-- The n-th comes to the front. -/
theorem Star.front {cs : List Ck} {w0 w : World} {B : Nat} (h : Star cs w0 B w) (n : Nat) (c : Ck) (hc : cs[n]? = some c) : Star (c :: cs.eraseIdx n) w0 B w :=
  h.pick (fun i => if i = 0 then n else if i - 1 < n then i - 1 else i) (fun i => if i = n then 0 else if i < n then i + 1 else i) fun i d hd => by
    match i, hd with
    | 0, hd => exact ⟨by simpa [hc] using hd, by simp⟩
    | i + 1, hd =>
      have hd' : (cs.eraseIdx n)[i]? = some d := by simpa using hd
      rw [List.getElem?_eraseIdx] at hd'
      by_cases hi : i < n
      · rw [if_pos hi] at hd'
        simp only [Nat.add_eq_zero_iff, Nat.succ_ne_self, and_false, if_false, Nat.add_sub_cancel, hi, if_true]
        exact ⟨by simpa using hd', by rw [if_neg (by omega)]⟩
      · rw [if_neg hi] at hd'
        simp only [Nat.add_eq_zero_iff, Nat.succ_ne_self, and_false, if_false, Nat.add_sub_cancel, hi]
        exact ⟨by simpa using hd', by rw [if_neg (by omega), if_neg (by omega)]⟩

theorem Star.get {cs : List Ck} {w0 w : World} {B : Nat} (h : Star cs w0 B w) (n : Nat) (c : Ck) (hc : cs[n]? = some c) : c.holds w (fun k => B ≤ k) := by
  obtain ⟨h1, h2, own, h3⟩ := h
  exact c.mono (fun k hk => hk.1) (h3 n c hc)

theorem Star.head {c : Ck} {cs : List Ck} {w0 w : World} {B : Nat} (h : Star (c :: cs) w0 B w) : c.holds w (fun k => B ≤ k) := h.get 0 c rfl

end Go.Proofs.Ytihfikepfhcboaa
