/-
  The seats' memory: a block, a row of slices, a row of numbers, and each slice's own row.
-/
import Derived.Test.YtihfikepfhcboaaO6
namespace Go.Proofs.Ytihfikepfhcboaa
open Go.RowKit Go.Maps

/-- The n-th chunk is turned in its place. -/
theorem Star.set_at {cs : List Ck} {w0 w w' : World} {B : Nat} {c c' : Ck} (h : Star cs w0 B w) (n : Nat) (hn : cs[n]? = some c)
    (ht : Star (c :: cs.eraseIdx n) w0 B w → Star (c' :: cs.eraseIdx n) w0 B w') : Star (cs.set n c') w0 B w' := by
  have hlt : n < cs.length := (List.getElem?_eq_some_iff.1 hn).1
  refine (ht (h.front n c hn)).pick (fun i => if i = n then 0 else if i < n then i + 1 else i) (fun i => if i = 0 then n else if i - 1 < n then i - 1 else i) fun i d hd => ?_
  have hi : i < cs.length := by simpa using (List.getElem?_eq_some_iff.1 hd).1
  by_cases e : i = n
  · subst e
    rw [List.getElem?_set_self hlt] at hd
    simpa using hd
  · rw [List.getElem?_set_ne (Ne.symm e)] at hd
    by_cases hl : i < n
    · simp only [e, if_false, hl, if_true, Nat.add_one_ne_zero, Nat.add_sub_cancel, and_true, List.getElem?_cons_succ]
      rw [List.getElem?_eraseIdx, if_pos hl]
      exact hd
    · have hpos : 0 < i := by omega
      obtain ⟨j, rfl⟩ : ∃ j, i = j + 1 := ⟨i - 1, by omega⟩
      simp only [e, if_false, hl, Nat.add_one_ne_zero, Nat.add_sub_cancel, List.getElem?_cons_succ]
      refine ⟨?_, ?_⟩
      · rw [List.getElem?_eraseIdx, if_neg (by omega)]
        exact hd
      · rw [if_neg (by omega)]

/-- A slice by its block, length and room. -/
structure Dsc where
  g : Nat
  n : Nat
  c : Nat
def Dsc.val (d : Dsc) : Value := .slice (some ⟨d.g, 0, none⟩) d.n d.c
def kDsc : Kn Dsc := .scalar Dsc.val fun _ => rfl

/-- A group: where its nodes lie, and which they are. -/
structure Grp where
  g : Nat
  c : Nat
  xs : List Int
def Grp.dsc (r : Grp) : Dsc := ⟨r.g, r.xs.length, r.c⟩
def Grp.ck (r : Grp) : Ck := .row 3 (.int .i64) r.dsc.val r.xs

/-- Rows of slices that are read: each slice's own row stands beside. -/
theorem rows_rd {gs : List Grp} {vN : Value} {w : World} {cs : List Ck} {w0 : World} {B : Nat} (h : Star (Ck.row 25 kDsc vN (gs.map Grp.dsc) :: cs) w0 B w)
    (hin : ∀ (i : Nat) (hi : i < gs.length), ∃ n : Nat, (Ck.row 25 kDsc vN (gs.map Grp.dsc) :: cs)[n]? = some (gs[i].ck)) : (Kn.slice kInts).rd w (gs.map (·.xs)) [vN] := by
  obtain ⟨A, c, he, k0, k1, k2, k3⟩ := h.row_rd
  refine ⟨A, c, by rw [he]; simp, fun e => k0 e, by simpa using k1, by simpa using k2, ?_⟩
  rcases k3 with h0 | ⟨ad, rfl, hF, hlt, hE⟩
  · exact .inl (by simpa using h0)
  · refine .inr ⟨ad, rfl, hF, hlt, fun i hi => ?_⟩
    have hi' : i < gs.length := by simpa using hi
    obtain ⟨cl, e1, e2, e3⟩ := hE i (by simpa using hi')
    obtain ⟨n, hn⟩ := hin i hi'
    have hr := (h.front n _ hn).row_rd
    refine ⟨cl, ?_, e2, e3⟩
    have : cl = [gs[i].dsc.val] := by rw [show cl = [((gs.map Grp.dsc)[i]'(by simpa using hi')).val] from e1]; simp
    rw [this, List.getElem_map]
    exact hr

/-- The seats, read out of their chunks. -/
theorem seats_rd {gs : List Grp} {eps : List Int} {b : Nat} {vN vE : Value} {w : World} {cs : List Ck} {w0 : World} {B : Nat}
    (h : Star (Ck.blk b [vN, vE] 64 :: Ck.row 25 kDsc vN (gs.map Grp.dsc) :: Ck.row 3 (.int .i64) vE eps :: cs) w0 B w)
    (hin : ∀ (i : Nat) (hi : i < gs.length), ∃ n : Nat, cs[n]? = some (gs[i].ck)) : kSeats.rd w ⟨gs.map (·.xs), eps⟩ [.pointer (some ⟨b, 0, none⟩)] := by
  have h1 := rows_rd (h.front 1 _ rfl) fun i hi => by
    obtain ⟨n, hn⟩ := hin i hi
    exact ⟨n + 3, by simpa using hn⟩
  have h2 := (h.front 2 _ rfl).row_rd
  exact ⟨b, _, rfl, trivial, h.head.2, [vN], [vE], rfl, h1, h2⟩
end Go.Proofs.Ytihfikepfhcboaa
