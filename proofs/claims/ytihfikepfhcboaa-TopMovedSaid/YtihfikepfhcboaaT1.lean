/-
  What an argument's reading as data says, as a kind: numbers, slices; a Shift.
-/
import Derived.Test.YtihfikepfhcboaaS9
import Derived.Deep.Slices
import Derived.Deep.Strs
import Derived.OpenShut
namespace Go.Proofs.Ytihfikepfhcboaa
open Go.RowKit Go.Deep

theorem list_of {α : Type} {p : Nat → α → Prop} : ∀ (n : Nat), (∀ i, i < n → ∃ x, p i x) → ∃ l : List α, l.length = n ∧ ∀ i (hi : i < l.length), p i l[i]
  | 0, _ => ⟨[], rfl, fun i hi => absurd hi (by simp)⟩
  | n + 1, h => by
    obtain ⟨l, h1, h2⟩ := list_of n fun i hi => h i (by omega)
    obtain ⟨x, hx⟩ := h n (by omega)
    refine ⟨l ++ [x], by simp [h1], fun i hi => ?_⟩
    rw [List.getElem_append]
    split
    · exact h2 i _
    · have : i = n := by rw [List.length_append, List.length_singleton] at hi; omega
      subst this
      simpa using hx

/-- Whatever reads as data of this type is of this kind; and so much is known of it. -/
structure Opens {α : Type} (P : Program) (d : Kn α) (t : TypeId) (good : α → Prop) : Prop where
  out : ∀ {H : Type} {enc : TypeId × Value → H} {w : World} {base : Nat} {spare : Nat → Bool} {held : Bool} {fuel : Nat} {cs : List Value} {y : DataW H × List MemPlace}, DataW.trod enc P w base spare held fuel t cs = some y → ∃ x, d.rd w x cs ∧ good x

theorem opens_int {P : Program} {t : TypeId} {k : IntKind} (ht : P.underlying t = some (.int k)) : Opens P (.int k) t (fun n => (Lit.int k n).wf = true) := ⟨fun h => by
  obtain ⟨n, rfl, _, hw⟩ := DataW.trod_int ht h
  exact ⟨n, rfl, hw⟩⟩

theorem Opens.imp {α : Type} {P : Program} {d : Kn α} {t : TypeId} {g g' : α → Prop} (h : Opens P d t g) (hg : ∀ x, g x → g' x) : Opens P d t g' := ⟨fun hy => by
  obtain ⟨x, h1, h2⟩ := h.out hy
  exact ⟨x, h1, hg x h2⟩⟩

theorem opens_slice {α : Type} {P : Program} {d : Kn α} {t e : TypeId} {good : α → Prop} (hd : Opens P d e good) (ht : P.underlying t = some (.slice e)) (hc : P.cellsOf e = d.sz) (hs : 0 < d.sz) :
    Opens P (.slice d) t (fun l => ∀ x ∈ l, good x) := ⟨fun {H enc w base spare held fuel cs y} h => by
  rcases open_slice ht h with ⟨rfl, _⟩ | ⟨a, len, cap, m, n, D, Pl, rfl, hb, hl, hm, hmm, hy, hx⟩
  · exact ⟨[], ⟨none, 0, rfl, fun _ => rfl, Nat.le_refl _, Nat.zero_le _, .inl rfl⟩, fun x hx => by cases hx⟩
  · have hlm : len ≤ m := by rw [hmm]; split <;> omega
    obtain ⟨l, hl1, hl2⟩ := list_of (p := fun i x0 => ∃ cs', d.rd w x0 cs' ∧ good x0 ∧ cs'.length = d.sz ∧ ∀ j, j < d.sz → w.cell? ((a.add (i * d.sz)).add j) = cs'[j]?) len (fun i hi => by
      obtain ⟨cs', h1, h2⟩ := hx i (by omega)
      obtain ⟨x0, h3, h4⟩ := hd.out h2
      rw [hc] at h1
      obtain ⟨_, h5, h6⟩ := World.cells?_some h1
      exact ⟨x0, cs', h3, h4, h5, h6⟩)
    refine ⟨l, ⟨some a, cap, by rw [hl1], fun e => (by cases e), by omega, by omega, ?_⟩, fun x hx' => ?_⟩
    · by_cases h0 : len = 0
      · exact .inl (List.eq_nil_of_length_eq_zero (by omega))
      · obtain ⟨cs', _, _, h5, h6⟩ := hl2 0 (by omega)
        refine .inr ⟨a, rfl, trivial, ?_, fun i hi => ?_⟩
        · have h7 := h6 0 hs
          rw [List.getElem?_eq_getElem (by omega)] at h7
          have := World.block_lt_of_cell? _ _ h7
          rwa [add_block, add_block] at this
        · obtain ⟨cs1, r1, _, r2, r3⟩ := hl2 i hi
          refine ⟨cs1, r1, r2, fun j u hu => ?_⟩
          have hj : j < d.sz := r2 ▸ (List.getElem?_eq_some_iff.1 hu).1
          show w.cell? (a.add (i * d.sz + j)) = some u
          rw [← add_add, r3 j hj]
          exact hu
    · obtain ⟨i, hi, rfl⟩ := List.getElem_of_mem hx'
      obtain ⟨_, _, g1, _⟩ := hl2 i hi
      exact g1⟩

theorem opens_bytes : Opens Try.prog kBytes 22 (fun l => ∀ x ∈ l, 0 ≤ x ∧ x < 256) :=
  (opens_slice (opens_int Try.underlying5) Try.underlying22 (by kernel_rfl) Nat.one_pos).imp fun l h x hx => by have := bounds_u8 (h x hx); omega

theorem opens_shf : Opens Try.prog kShf 27 (fun y => 0 ≤ y.src ∧ y.src < 256 ∧ 0 ≤ y.dst ∧ y.dst < 256 ∧ ∀ x ∈ y.mended, 0 ≤ x ∧ x < 256) := ⟨fun {H enc w base spare held fuel cs y} h => by
  obtain ⟨y0, y1, y2, n, _, hl, h0, h1, h2⟩ := trod_struct3 Try.underlying27 h
  have e27 : Try.prog.cellsOf 27 = 3 := by kernel_rfl
  have e5 : Try.prog.cellsOf 5 = 1 := by kernel_rfl
  have e22 : Try.prog.cellsOf 22 = 1 := by kernel_rfl
  simp only [e27] at hl
  simp only [e5, e22] at h0 h1 h2
  obtain ⟨a, ha, wa⟩ := (opens_int Try.underlying5).out h0
  obtain ⟨b, hb, wb⟩ := (opens_int Try.underlying5).out h1
  obtain ⟨l, hm, wm⟩ := opens_bytes.out h2
  have wa := bounds_u8 wa
  have wb := bounds_u8 wb
  refine ⟨⟨a, b, l⟩, ?_, by show 0 ≤ a; omega, by show a < 256; omega, by show 0 ≤ b; omega, by show b < 256; omega, wm⟩
  match cs, hl with
  | [c0, c1, c2], _ => exact ⟨[c0], [c1, c2], rfl, ha, [c1], [c2], rfl, hb, hm⟩⟩

theorem opens_shfs : Opens Try.prog (.slice kShf) 23 (fun l => ∀ y ∈ l, 0 ≤ y.src ∧ y.src < 256 ∧ 0 ≤ y.dst ∧ y.dst < 256 ∧ ∀ x ∈ y.mended, 0 ≤ x ∧ x < 256) :=
  opens_slice opens_shf Try.underlying23 (by kernel_rfl) (by decide)
end Go.Proofs.Ytihfikepfhcboaa
