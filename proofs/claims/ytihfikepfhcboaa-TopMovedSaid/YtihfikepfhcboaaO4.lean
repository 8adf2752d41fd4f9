/-
  Walks: seats17.places.
-/
import Derived.Test.YtihfikepfhcboaaO3
import Derived.Deep.RegionHeld3
namespace Go.Proofs.Ytihfikepfhcboaa
open Go.RowKit Go.Maps

def seatsOf (l : List Place) : Seats := ⟨l.map (·.nodes), l.map (·.ep)⟩

section
variable {α : Type} {P : Program} {ops : Array Oper} {rest : List Oper} {o : Oper} {a : Act} {Q : Exit → Act → World → Prop}
variable {e : TypeId} {v : Value} {xs : List α} {cs : List Ck} {w0 W : World} {B : Nat}
theorem appS_step {K : Act → World → Prop} {E : Prop} (hgd : o.guard = none) {enc : α → Value} {h1 : ∀ x, (enc x).oneCell' = true} (s x : Operand) (t : TypeId) (z : Value) (bytes : Nat)
    (ho : o.op = .call { callee := .builtin .append, args := #[s, x], argTypes := #[t, t] })
    (ht : P.underlying t = some (.slice e)) (hinfo : (P.info? e).map (fun i => (i.zero, i.size, i.bytes)) = some (some z, 1, bytes)) (hz : z.cells.size = 1) (hb0 : 0 < bytes)
    (h : Star (Ck.row e (.scalar enc h1) v xs :: cs) w0 B W) (hs : a.eval s = v) {ys : List α} {u : Value} (hx : a.eval x = u) (hy : (Kn.slice (.scalar enc h1)).rd W ys [u]) (hl : (xs.length + ys.length) * bytes ≤ 140737488355328)
    (k : ∀ v' w', Star (Ck.row e (.scalar enc h1) v' (xs ++ ys) :: cs) w0 B w' → W.heap.size ≤ w'.heap.size → (v' = .slice none 0 0 → v = .slice none 0 0 ∧ ys = []) → K (a.put o.dst v') w') :
    if Region.wanted o (yielded ops a.tmps) = true then o.wp P a W K Q else E := by
  rw [if_pos (by simp [Region.wanted, hgd])]
  exact appS_wp s x t z bytes ho ht hinfo hz hb0 h hs hx hy hl k
end

set_option maxHeartbeats 8000000 in
set_option maxRecDepth 100000 in
theorem places_any (l : List Place) (v : Value) (w : World) (h : kSeats.rd w (seatsOf l) [v]) (h1 : l.length ≤ 1000) (hR : ∀ p ∈ l, PRight p) :
    Calls Try.prog 113 #[v] w (RetRow 214 kPlace l w) := by
  obtain ⟨b, v1, v2, rfl, _, e0, e1, g1, g2⟩ := kSeats_open h
  obtain ⟨A, c, rfl, _⟩ := rd_slice g1
  obtain ⟨A', c', rfl, _⟩ := rd_slice g2
  have H := hid g1
  have H2 := hid g2
  have HR := hid hR
  have E0 := hid e0
  have E1 := hid e1
  have hl1 : (seatsOf l).nodes.length = l.length := by simp [seatsOf]
  have hl2 : (seatsOf l).epochs.length = l.length := by simp [seatsOf]
  rw [hl1] at e0
  rw [hl2] at e1
  rw [hl1] at H E0
  rw [hl2] at H2 E1
  clear h g1 g2 hR
  go_enter Try.func113, Try.ntmps113
  go_wp2
  go_loopw [3, 4, 10] (fun vo _ i wr => ∃ k : Nat, i = .int .i64 k ∧ k ≤ l.length ∧ Hid (Star [Ck.row 214 kPlace vo (l.take k)] w w.heap.size wr)) (fun _ _ i _ => l.length - (intOf i).toNat)
  case atStart => exact ⟨0, rfl, by omega, (Star.nil w).nilrow _ _⟩
  case round =>
    obtain ⟨k, rfl, hk, HS⟩ := hrel
    by_cases hlt : k < l.length
    · have hpr := HR.out _ (List.getElem_mem hlt)
      have hk1 : k < (seatsOf l).nodes.length := by simp [seatsOf, hlt]
      have hk2 : k < (seatsOf l).epochs.length := by simp [seatsOf, hlt]
      obtain ⟨ad, cl, rfl, q1, q2, _⟩ := rd_getS H.out 1 rfl k hk1
      have hn : (seatsOf l).nodes[k] = l[k].nodes := by simp [seatsOf]
      rw [hn] at q1
      obtain ⟨A3, c3, he, q3⟩ : kInts.rd w l[k].nodes cl := q1
      subst he
      have q5 : kInts.rd w l[k].nodes [.slice A3 l[k].nodes.length c3] := ⟨A3, c3, rfl, q3⟩
      obtain ⟨ad2, rfl, q4⟩ := rd_get1 H2.out k hk2
      have hn2 : (seatsOf l).epochs[k] = l[k].ep := by simp [seatsOf]
      rw [hn2] at q4
      have q6 := q2 _ rfl
      rw [Nat.mul_one] at q6
      have G := hid q5
      have F1 := hid q6
      have F2 := hid q4
      have e2 := cell_below HS.out.below q6
      have e3 := cell_below HS.out.below q4
      have e4 := cell_below HS.out.below E0.out
      have e5 := cell_below HS.out.below E1.out
      have HLn := hid hpr.l1
      have l2 := World.block_lt_of_cell? _ _ e2
      have l3 := World.block_lt_of_cell? _ _ e3
      have l4 := World.block_lt_of_cell? _ _ e4
      have l5 := World.block_lt_of_cell? _ _ e5
      dsimp only at l4 l5
      have S1 := hid (HS.out.nums 3 .i64 [] (by simp))
      have HL2 : Hid (((l.take k).length + 1) * 32 ≤ 140737488355328) := by show _ ≤ _; rw [List.length_take]; omega
      clear q2 q3 q4 q5 q6 hn hn2 hk1 hk2 hpr
      have HK : Hid (∀ w', Below w.heap.size w w' → w'.cell? ⟨b, 0, none⟩ = some (.slice (some ad) l.length c) ∧ w'.cell? ⟨b, 1, none⟩ = some (.slice (some ad2) l.length c') ∧ w'.cell? (ad.add k) = some (.slice A3 l[k].nodes.length c3) ∧ w'.cell? (ad2.add k) = some (.int .i64 l[k].ep)) := fun w' hb => ⟨cell_below hb E0.out, cell_below hb E1.out, cell_below hb F1.out, cell_below hb F2.out⟩
      have HS0 := hid HS.out.drew
      go_wp2
      go_region_held3 (fun w' => w'.cell? ⟨b, 0, none⟩ = some (.slice (some ad) l.length c) ∧ w'.cell? ⟨b, 1, none⟩ = some (.slice (some ad2) l.length c') ∧ w'.cell? (ad.add k) = some (.slice A3 l[k].nodes.length c3) ∧ w'.cell? (ad2.add k) = some (.int .i64 l[k].ep)) (first | exact HK.out _ S4.out.below | exact HK.out _ (S3.out.alloc _).below | exact HK.out _ S3.out.below | exact HK.out _ S1.out.drew.below | exact HK.out _ HS0.out.below) (first
        | (refine appS_step rfl _ _ 25 _ 8 rfl Try.underlying25 info3 rfl (by decide) S1.out.drew rfl rfl (Kn.rd_below G.out S1.out.drew.below) (by have := HLn.out; simp; omega) ?_; intro vn w3 h3 _ _; rw [List.nil_append] at h3; obtain ⟨A4, c4, hv, _⟩ := rd_slice h3.row_rd; subst hv; have S3 := hid ((h3.say (c' := Ck.inn kPlace [⟨l[k].ep, l[k].nodes⟩] [.int .i64 l[k].ep, .slice A4 l[k].nodes.length c4]) (inn_place _)).swap); clear h3)
        | (refine app1_step rfl _ _ 57 _ 32 rfl Try.underlying57 info214 rfl (by decide) (by decide) S3.out rfl rfl HL2.out ?_; intro v' w4 h4 _; have S4 := hid h4; clear h4))
      all_goals
        go_wp2
        go_roundw
        case rel => exact ⟨k + 1, by go_num, by omega, by rw [take_snoc hlt]; exact S4.out⟩
        case measure => simp [intOf]; omega
    · obtain rfl : k = l.length := by omega
      rw [List.take_length] at HS
      go_wp2
      go_ret
      exact ⟨_, rfl, HS.out⟩
end Go.Proofs.Ytihfikepfhcboaa
