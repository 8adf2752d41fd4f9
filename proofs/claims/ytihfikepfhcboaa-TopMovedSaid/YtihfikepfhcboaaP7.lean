/-
  The seats' memory, on: one cell of a group is written; pieces of a slice that is read; the last place where a number stands.
-/
import Derived.Test.YtihfikepfhcboaaP6
namespace Go.Proofs.Ytihfikepfhcboaa
open Go.RowKit Go.Maps

/-- The seats and the placements. -/
def Mem (b : Nat) (v12 : Value) (l : List Place) (w0 : World) (B : Nat) (w : World) : Prop := ∃ (gs : List Grp) (vN vE : Value), gs.map (·.xs) = l.map (·.nodes) ∧
  Star (Ck.blk b [vN, vE] 64 :: Ck.row 25 kDsc vN (gs.map Grp.dsc) :: Ck.row 3 (.int .i64) vE (l.map (·.ep)) :: Ck.row 214 kPlace v12 l :: gs.map Grp.ck) w0 B w

theorem Mem.go {b : Nat} {v12 : Value} {l : List Place} {w0 : World} {B : Nat} {w w' : World} (h : Mem b v12 l w0 B w) (hb : Below w.heap.size w w') : Mem b v12 l w0 B w' := by
  obtain ⟨gs, vN, vE, h1, h2⟩ := h
  exact ⟨gs, vN, vE, h1, h2.go hb⟩

/-- The seats are read, whatever the placements are. -/
theorem mem_seats {gs : List Grp} {L : List Place} {b : Nat} {vN vE : Value} {w : World} {c : Ck} {w0 : World} {B : Nat} (hg : gs.map (·.xs) = L.map (·.nodes))
    (h : Star (Ck.blk b [vN, vE] 64 :: Ck.row 25 kDsc vN (gs.map Grp.dsc) :: Ck.row 3 (.int .i64) vE (L.map (·.ep)) :: c :: gs.map Grp.ck) w0 B w) : kSeats.rd w (seatsOf L) [.pointer (some ⟨b, 0, none⟩)] := by
  have := seats_rd h fun i hi => ⟨i + 1, by simp [hi]⟩
  rw [hg] at this
  exact this

theorem Mem.seats {b : Nat} {v12 : Value} {l : List Place} {w0 : World} {B : Nat} {w : World} (h : Mem b v12 l w0 B w) : kSeats.rd w (seatsOf l) [.pointer (some ⟨b, 0, none⟩)] := by
  obtain ⟨gs, vN, vE, h1, h2⟩ := h
  exact mem_seats h1 h2

theorem Mem.places {b : Nat} {v12 : Value} {l : List Place} {w0 : World} {B : Nat} {w : World} (h : Mem b v12 l w0 B w) : kPlaces.rd w l [v12] := by
  obtain ⟨gs, vN, vE, h1, h2⟩ := h
  exact (h2.front 3 _ rfl).row_rd

/-- One number of one group. -/
def putG (gs : List Grp) (g i : Nat) (x : Int) : List Grp := gs.modify g fun r => ⟨r.g, r.c, r.xs.set i x⟩
theorem putG_dsc (gs : List Grp) (g i : Nat) (x : Int) : (putG gs g i x).map Grp.dsc = gs.map Grp.dsc := by
  refine List.ext_getElem (by simp [putG]) fun j h1 h2 => ?_
  simp only [putG, List.getElem_map, List.getElem_modify]
  split <;> simp [Grp.dsc]
theorem putG_xs (gs : List Grp) (g i : Nat) (x : Int) (hg : g < gs.length) : (putG gs g i x).map (·.xs) = (gs.map (·.xs)).set g (gs[g].xs.set i x) := by
  refine List.ext_getElem (by simp [putG]) fun j h1 h2 => ?_
  simp only [putG, List.getElem_map, List.getElem_modify, List.getElem_set]
  by_cases e : g = j
  · subst e; simp
  · simp [e]

theorem Star.put_grp {pre : List Ck} {gs : List Grp} {w0 w : World} {B : Nat} (h : Star (pre ++ gs.map Grp.ck) w0 B w) (g : Nat) (hg : g < gs.length) (i : Nat) (x : Int) :
    Star (pre ++ (putG gs g i x).map Grp.ck) w0 B (w.setCell ⟨gs[g].g, i, none⟩ (.int .i64 x)) := by
  have hn : (pre ++ gs.map Grp.ck)[pre.length + g]? = some gs[g].ck := by
    rw [List.getElem?_append_right (by omega), Nat.add_sub_cancel_left, List.getElem?_map, List.getElem?_eq_getElem hg]; rfl
  have h1 := h.set_at (w' := w.setCell ⟨gs[g].g, i, none⟩ (.int .i64 x)) (c' := (⟨gs[g].g, gs[g].c, gs[g].xs.set i x⟩ : Grp).ck) (pre.length + g) hn fun h2 => by
    have h3 := Star.set_row (enc := Value.int .i64) (h1 := fun _ => rfl) (g := gs[g].g) (cap := gs[g].c) (n := gs[g].xs.length) (xs := gs[g].xs) h2 i x
    have e : (⟨gs[g].g, gs[g].c, gs[g].xs.set i x⟩ : Grp).ck = Ck.row 3 (.int .i64) (.slice (some ⟨gs[g].g, 0, none⟩) gs[g].xs.length gs[g].c) (gs[g].xs.set i x) := by
      simp [Grp.ck, Grp.dsc, Dsc.val]
    rw [e]
    exact h3
  have e : (pre ++ gs.map Grp.ck).set (pre.length + g) (⟨gs[g].g, gs[g].c, gs[g].xs.set i x⟩ : Grp).ck = pre ++ (putG gs g i x).map Grp.ck := by
    rw [List.set_append, if_neg (by omega), Nat.add_sub_cancel_left]
    congr 1
    refine List.ext_getElem (by simp [putG]) fun j h1 h2 => ?_
    simp only [putG, List.getElem_set, List.getElem_map, List.getElem_modify]
    by_cases e : g = j
    · subst e; simp
    · simp [e]
  rw [e] at h1
  exact h1

theorem xs_at {gs : List Grp} {L : List Place} (h : gs.map (·.xs) = L.map (·.nodes)) {g : Nat} (hg : g < gs.length) (hg' : g < L.length) : gs[g].xs = L[g].nodes := by
  have : (gs.map (·.xs))[g]? = (L.map (·.nodes))[g]? := by rw [h]
  simpa [hg, hg'] using this
theorem set_xs {gs : List Grp} {L : List Place} {g i : Nat} {tt : Int} {p : Place} (h : gs.map (·.xs) = L.map (·.nodes)) (hg : g < gs.length) (hp : p.nodes = gs[g].xs.set i tt) :
    (putG gs g i tt).map (·.xs) = (L.set g p).map (·.nodes) := by rw [putG_xs _ _ _ _ hg, h, List.map_set, hp]

/-- A group's slice, where it stands in the row of slices. -/
theorem dsc_cell {gs : List Grp} {A : Option Addr} {n c : Nat} {w : World} (h : (Kn.slice kDsc).rd w (gs.map Grp.dsc) [.slice A n c]) (g : Nat) (hg : g < gs.length) :
    ∃ ad, A = some ad ∧ w.cell? (ad.add g) = some (.slice (some ⟨gs[g].g, 0, none⟩) gs[g].xs.length gs[g].c) := by
  obtain ⟨ad, h1, h2⟩ := rd_get1 (enc := Dsc.val) (h1 := fun _ => rfl) h g (by simpa using hg)
  exact ⟨ad, h1, by rw [h2, List.getElem_map]; rfl⟩

/-- The stripes of one round, met so far. -/
def leftk (ck : List Int) (n s : Int) : List Int := if s % n ∈ ck then [s] else []
theorem mem_take_succ {ck : List Int} {p : Nat} (hp : p < ck.length) (x : Int) : x ∈ ck.take (p + 1) ↔ x ∈ ck.take p ∨ x = ck[p] := by rw [take_snoc hp, List.mem_append, List.mem_singleton]
theorem leftk_hit {ck : List Int} (hn : ck.Nodup) {p : Nat} (hp : p < ck.length) {n s : Int} (h : s % n = ck[p]) : leftk (ck.take p) n s = [] ∧ leftk (ck.take (p + 1)) n s = [s] := by
  unfold leftk
  rw [if_neg (by rw [h]; exact not_mem_take hn hp), if_pos (by rw [h]; exact (mem_take_succ hp _).2 (.inr rfl))]
  exact ⟨rfl, rfl⟩
theorem leftk_miss {ck : List Int} {p : Nat} (hp : p < ck.length) {n s : Int} (h : ¬ s % n = ck[p]) : leftk (ck.take (p + 1)) n s = leftk (ck.take p) n s := by
  unfold leftk
  have := mem_take_succ hp (s % n)
  by_cases hm : s % n ∈ ck.take p
  · rw [if_pos hm, if_pos (this.2 (.inl hm))]
  · rw [if_neg hm, if_neg (fun h2 => (this.1 h2).elim hm h)]

/-- A group's own cells. -/
theorem grp_cell {pre : List Ck} {gs : List Grp} {w0 w : World} {B : Nat} (h : Star (pre ++ gs.map Grp.ck) w0 B w) (g : Nat) (hg : g < gs.length) (i : Nat) (hi : i < gs[g].xs.length) :
    w.cell? ⟨gs[g].g, i, none⟩ = some (.int .i64 gs[g].xs[i]) ∧ w.frozen? ⟨gs[g].g, i, none⟩ = false := by
  have hn : (pre ++ gs.map Grp.ck)[pre.length + g]? = some gs[g].ck := by
    rw [List.getElem?_append_right (by omega), Nat.add_sub_cancel_left, List.getElem?_map, List.getElem?_eq_getElem hg]; rfl
  exact row_head (enc := Value.int .i64) (h1 := fun _ => rfl) (g := gs[g].g) (cap := gs[g].c) (n := gs[g].xs.length) (xs := gs[g].xs) (h.front _ _ hn) i hi

theorem Star.to_end {c : Ck} {cs : List Ck} {w0 w : World} {B : Nat} (h : Star (c :: cs) w0 B w) : Star (cs ++ [c]) w0 B w :=
  h.pick (fun i => if i < cs.length then i + 1 else 0) (fun j => if j = 0 then cs.length else j - 1) fun i d hd => by
    by_cases hi : i < cs.length
    · rw [List.getElem?_append_left hi] at hd
      simp only [hi, if_true, List.getElem?_cons_succ, Nat.add_one_ne_zero, if_false, Nat.add_sub_cancel]
      exact ⟨hd, trivial⟩
    · rw [List.getElem?_append_right (by omega)] at hd
      have hi2 : i = cs.length := by
        have := (List.getElem?_eq_some_iff.1 hd).1
        simp at this
        omega
      subst hi2
      simp at hd
      simp [hd]

/-- A group more. -/
theorem grp_add {b : Nat} {v8 v14 vN vE : Value} {gs : List Grp} {r : Grp} {eps : List Int} {c : Ck} {w0 w : World} {B : Nat}
    (h : Star (Ck.row 25 kDsc v8 (gs.map Grp.dsc ++ [r.dsc]) :: Ck.row 3 (.int .i64) v14 eps :: r.ck :: Ck.blk b [vN, vE] 64 :: c :: gs.map Grp.ck) w0 B w) :
    Star (Ck.blk b [v8, v14] 64 :: Ck.row 25 kDsc v8 ((gs ++ [r]).map Grp.dsc) :: Ck.row 3 (.int .i64) v14 eps :: c :: (gs ++ [r]).map Grp.ck) w0 B ((w.setCell ⟨b, 0, none⟩ v8).setCell ⟨b, 1, none⟩ v14) := by
  have h1 := ((h.front 3 _ rfl).set_blk 0 v8).set_blk 1 v14
  have h2 := (h1.front 3 _ rfl).to_end
  rw [List.map_append, List.map_append]
  exact h2

theorem info25 : (Try.prog.info? 25).map (fun i => (i.zero, i.size, i.bytes)) = some (some (.slice none 0 0), 1, 24) := by kernel_rfl

/-- A literal of one slice. -/
theorem Star.dsc1 {cs : List Ck} {w0 w : World} {B : Nat} (h : Star cs w0 B w) (d : Dsc) :
    Star (Ck.row 25 kDsc (.slice (some ⟨w.heap.size, 0, none⟩) 1 1) [d] :: cs) w0 B (w.alloc (.cells #[d.val] 25)) :=
  (h.free (c := Ck.inn kDsc [d] [d.val]) fun F => inn_scalar Dsc.val _ [d] w F).lit (by simp [maxLen])

theorem Star.dsc1n {cs : List Ck} {w0 w : World} {B : Nat} (h : Star cs w0 B w) (b : Nat) (hb : w.heap.size = b) (d : Dsc) :
    Star (Ck.row 25 kDsc (.slice (some ⟨b, 0, none⟩) 1 1) [d] :: cs) w0 B (w.alloc (.cells #[d.val] 25)) := by subst hb; exact h.dsc1 d
theorem Star.num1n {cs : List Ck} {w0 w : World} {B : Nat} (h : Star cs w0 B w) (b : Nat) (hb : w.heap.size = b) (e : TypeId) (k : IntKind) (x : Int) :
    Star (Ck.row e (.int k) (.slice (some ⟨b, 0, none⟩) 1 1) [x] :: cs) w0 B (w.alloc (.cells #[.int k x] e)) := by subst hb; exact h.num1 e k x

theorem grp_cellN {cs : List Ck} {gs : List Grp} {w0 w : World} {B : Nat} (h : Star cs w0 B w) (m : Nat) (hm : cs.drop m = gs.map Grp.ck) (g : Nat) (hg : g < gs.length) (i : Nat) (hi : i < gs[g].xs.length) :
    w.cell? ⟨gs[g].g, i, none⟩ = some (.int .i64 gs[g].xs[i]) ∧ w.frozen? ⟨gs[g].g, i, none⟩ = false := by
  rw [← List.take_append_drop m cs, hm] at h
  exact grp_cell h g hg i hi
theorem Star.put_grpN {cs : List Ck} {gs : List Grp} {w0 w : World} {B : Nat} (h : Star cs w0 B w) (m : Nat) (hm : cs.drop m = gs.map Grp.ck) (g : Nat) (hg : g < gs.length) (i : Nat) (x : Int) :
    Star (cs.take m ++ (putG gs g i x).map Grp.ck) w0 B (w.setCell ⟨gs[g].g, i, none⟩ (.int .i64 x)) := by
  rw [← List.take_append_drop m cs, hm] at h
  exact h.put_grp g hg i x

/-- A slice from some place on. -/
theorem rd_drop {α : Type} {d : Kn α} {w : World} {xs : List α} {g n c : Nat} (h : (Kn.slice d).rd w xs [.slice (some ⟨g, 0, none⟩) n c]) (hd : d.sz = 1) (k : Nat) (hk : k ≤ xs.length) :
    (Kn.slice d).rd w (xs.drop k) [.slice (some ⟨g, k, none⟩) (n - k) (c - k)] := by
  obtain ⟨A, c', he, h0, h1, h2, h3⟩ := h
  simp only [List.cons.injEq, and_true, Value.slice.injEq] at he
  obtain ⟨rfl, rfl, rfl⟩ := he
  refine ⟨some ⟨g, k, none⟩, c - k, by rw [List.length_drop], fun e => (by cases e), by rw [List.length_drop]; omega, by rw [List.length_drop]; omega, ?_⟩
  rcases h3 with rfl | ⟨ad, h4, h5, h6, h7⟩
  · exact .inl (by simp)
  · obtain rfl : (⟨g, 0, none⟩ : Addr) = ad := by simpa using h4
    refine .inr ⟨_, rfl, trivial, h6, (h7.drop k).imp (fun _ _ h => h) fun j u hu => ?_⟩
    rw [hd, Nat.mul_one] at hu
    rw [Addr.add_lit] at hu ⊢
    rw [Nat.zero_add] at hu
    exact hu

/-- The last place, so far, where a number stands; -1: there is none. -/
def LastAt (s : Int) (l : List Int) (i : Nat) (a : Int) : Prop := (a = -1 ∧ s ∉ l.take i) ∨ ∃ (j : Nat) (h : j < l.length), j < i ∧ a = j ∧ l[j] = s
theorem LastAt.start (s : Int) (l : List Int) : LastAt s l 0 (-1) := .inl ⟨rfl, by simp⟩
theorem LastAt.hit {s : Int} {l : List Int} {i : Nat} (hi : i < l.length) (h : l[i] = s) : LastAt s l (i + 1) i := .inr ⟨i, hi, by omega, rfl, h⟩
theorem LastAt.miss {s : Int} {l : List Int} {i : Nat} {a : Int} (hi : i < l.length) (h : ¬ l[i] = s) (hl : LastAt s l i a) : LastAt s l (i + 1) a := by
  rcases hl with ⟨h1, h2⟩ | ⟨j, h1, h2, h3, h4⟩
  · refine .inl ⟨h1, ?_⟩
    rw [take_snoc hi]
    simp only [List.mem_append, List.mem_singleton, not_or]
    exact ⟨h2, fun e => h e.symm⟩
  · exact .inr ⟨j, h1, by omega, h3, h4⟩
theorem LastAt.done {s : Int} {l : List Int} {a : Int} (hl : LastAt s l l.length a) (hn : l.Nodup) : (a = -1 ∧ idx s l 0 < 0) ∨ ∃ j : Nat, a = j ∧ j < l.length ∧ idx s l 0 = j := by
  rcases hl with ⟨h1, h2⟩ | ⟨j, h1, h2, h3, h4⟩
  · rw [List.take_length] at h2
    exact .inl ⟨h1, by rw [idx_of_not h2]; decide⟩
  · exact .inr ⟨j, h3, h1, by rw [← h4]; exact idx_at hn h1⟩

theorem fit_ring {nodes n groups : Nat} (h1 : nodes ≤ 9) (h2 : 1 ≤ n) (h3 : n ≤ nodes) : Fit groups 0 (ring nodes n groups) := by
  refine ⟨ring_length .., ring_right h1 h2 h3, fun p hp => ?_⟩
  obtain ⟨g, _, rfl⟩ := List.mem_map.1 hp
  show (1 : Int) ≤ _
  omega

theorem clash_snoc (frm tt : Int) (l : List Place) (p : Place) : clash frm tt (l ++ [p]) = (clash frm tt l || (decide (frm ∈ p.nodes) && decide (tt ∈ p.nodes))) := by
  simp [clash, Bool.or_assoc]
theorem clash_nil (frm tt : Int) : clash frm tt [] = (frm == tt) := by simp [clash]
end Go.Proofs.Ytihfikepfhcboaa
