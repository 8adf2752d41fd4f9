/-
  Walks: place.Move.
-/
import Derived.Test.YtihfikepfhcboaaN9
namespace Go.Proofs.Ytihfikepfhcboaa
open Go.RowKit

theorem Star.row_frozen {α : Type} {e : TypeId} {d : Kn α} {g cap n : Nat} {xs : List α} {cs : List Ck} {w0 w : World} {B : Nat} (h : Star (Ck.row e d (.slice (some ⟨g, 0, none⟩) n cap) xs :: cs) w0 B w) (j : Nat) :
    w.frozen? ⟨g, j, none⟩ = false := by
  rcases h.head with ⟨h0, _⟩ | ⟨g', cap', cur', h0, _, h3, _⟩
  · cases h0
  · simp only [Value.slice.injEq, Option.some.injEq, Addr.mk.injEq] at h0
    obtain ⟨⟨rfl, _⟩, _, rfl⟩ := h0
    simp [World.frozen?, h3]

theorem row_head {α : Type} {e : TypeId} {enc : α → Value} {h1 : ∀ x, (enc x).oneCell' = true} {g cap n : Nat} {xs : List α} {cs : List Ck} {w0 w : World} {B : Nat} (h : Star (Ck.row e (.scalar enc h1) (.slice (some ⟨g, 0, none⟩) n cap) xs :: cs) w0 B w) (i : Nat) (hi : i < xs.length) :
    w.cell? ⟨g, i, none⟩ = some (enc xs[i]) ∧ w.frozen? ⟨g, i, none⟩ = false := by
  obtain ⟨ad, h2, h3⟩ := rd_get1 h.row_rd i hi
  simp only [Option.some.injEq] at h2
  subst h2
  rw [Addr.add_lit, Nat.zero_add] at h3
  exact ⟨h3, h.row_frozen i⟩

section
variable {α : Type} {P : Program} {ops : Array Oper} {rest : List Oper} {o : Oper} {a : Act} {Q : Exit → Act → World → Prop}
variable {e : TypeId} {d : Kn α} {v : Value} {xs : List α} {cs : List Ck} {w0 W : World} {B : Nat}
/-- The same, the new block's number told. -/
theorem app1n (N : Nat) (hN : W.heap.size = N) (hgd : o.guard = none) (s x : Operand) (t : TypeId) (z : Value) (bytes : Nat)
    (ho : o.op = .call { callee := .builtin .append, args := #[s, x], argTypes := #[t, t] })
    (ht : P.underlying t = some (.slice e)) (hinfo : (P.info? e).map (fun i => (i.zero, i.size, i.bytes)) = some (some z, d.sz, bytes)) (hz : z.cells.size = d.sz) (hs0 : 0 < d.sz) (hb0 : 0 < bytes)
    {y : α} {news : List Value} (h : Star (Ck.row e d v xs :: Ck.inn d [y] news :: cs) w0 B W) (hs : a.eval s = v) (hx : a.eval x = .slice (some ⟨N, 0, none⟩) 1 1)
    (hl : (xs.length + 1) * bytes ≤ 140737488355328)
    (k : ∀ v' w', Star (Ck.row e d v' (xs ++ [y]) :: cs) w0 B w' → W.heap.size < w'.heap.size → wpList P ops Q rest (a.put o.dst v') w') : wpList P ops Q (o :: rest) a (W.alloc (.cells news.toArray e)) := by
  subst hN
  exact app1 hgd s x t z bytes ho ht hinfo hz hs0 hb0 h hs hx hl k
end

set_option maxHeartbeats 4000000 in
set_option maxRecDepth 100000 in
theorem move_yes (l : List Place) (v : Value) (frm tt : Int) (w : World) (h : kPlaces.rd w l [v]) (h0 : 1 ≤ l.length) (h1 : l.length ≤ 1000) (hR : ∀ p ∈ l, PRight p)
    (f0 : 0 ≤ frm) (f1 : frm < 256) (t0 : 0 ≤ tt) (t1 : tt < 256) (hft : frm ≠ tt) (hx : l.any (hinders frm tt) = false) :
    Calls Try.prog 27 #[v, .int .i64 frm, .int .i64 tt] w fun en w' => ∃ v vg, en = .returned (.tuple #[v, vg, .int .i64 0]) ∧ Star [Ck.row 214 kPlace v (l.map (mv1 frm tt)), Ck.row 3 (.int .i64) vg (grs frm l)] w w.heap.size w' := by
  obtain ⟨A, c, rfl, h2, h3, _⟩ := rd_slice h
  have h3 := len63 h3
  have H := hid h
  have HR := hid hR
  have S0 := hid (((Star.nil w).box2 w.heap.size rfl [.int .i64 frm] 3).box2 (w.heap.size + 1) (by simp) [.int .i64 tt] 3)
  have HNf := fun w => isnode_any frm w f0 f1
  have HNt := fun w => isnode_any tt w t0 t1
  have HA := hid hx
  have HF : ∀ w1, Star [Ck.blk (w.heap.size + 1) [.int .i64 tt] 3, Ck.blk w.heap.size [.int .i64 frm] 3] w w.heap.size w1 → Tells 117 #[.pointer (some ⟨w.heap.size, 0, none⟩), .pointer (some ⟨w.heap.size + 1, 0, none⟩)] (hinders frm tt) l w1 := fun w1 hS w2 x cs hb _ hr =>
    hinders_any x cs _ _ frm tt w2 hr ((hS.go hb).at 1 rfl 0 _ rfl).1 ((hS.go hb).at 0 rfl 0 _ rfl).1
  have HF := hid HF
  have eb : (frm == tt) = false := by simpa using hft
  clear h hR f0 f1 t0 t1 hx hft
  go_enter Try.func27, Try.ntmps27
  go_wp2_with (first
    | (go_at_call 118; refine (all_any l _ _ (Kn.rd_below H.out S0.out.below) h0 h1 HR.out).mono ?_; rintro e w' ⟨rfl, hb⟩; have S1 := hid (S0.out.go hb); have e0 := S1.out.at 0 rfl 0 _ rfl; have e1 := S1.out.at 1 rfl 0 _ rfl)
    | (go_at_call 116; (with_reducible show Calls Try.prog 116 #[Value.int .i64 frm] _ _); refine (HNf _).mono ?_; rintro e w' ⟨rfl, rfl⟩)
    | (go_at_call 116; (with_reducible show Calls Try.prog 116 #[Value.int .i64 tt] _ _); refine (HNt _).mono ?_; rintro e w' ⟨rfl, rfl⟩)
    | (go_at_call 119; refine (containsFunc_any l _ 117 _ (hinders frm tt) _ (Kn.rd_below H.out S1.out.below) (HF.out _ S1.out) (enters_of Try.func117 (by kernel_rfl) rfl)).mono ?_; rintro e w1 ⟨rfl, hb1⟩; rw [HA.out]; have S2 := hid (((S1.out.go hb1).nilrow 3 (.int .i64)).nilrow 214 kPlace)))
  go_loopw [11, 12, 13, 14, 15, 44] (fun vo vg _ _ _ i wr => ∃ k : Nat, i = .int .i64 k ∧ k ≤ l.length ∧ Hid (Star [Ck.row 214 kPlace vo ((l.take k).map (mv1 frm tt)), Ck.row 3 (.int .i64) vg (grs frm (l.take k)), Ck.blk (w.heap.size + 1) [.int .i64 tt] 3, Ck.blk w.heap.size [.int .i64 frm] 3] w w.heap.size wr)) (fun _ _ _ _ _ i _ => l.length - (intOf i).toNat)
  case atStart => exact ⟨0, rfl, by omega, S2.out⟩
  case round =>
    clear S2 S1 S0 HF HNf HNt HA
    obtain ⟨k, rfl, hk, HS⟩ := hrel
    by_cases hlt : k < l.length
    · obtain ⟨ad, cl, rfl, g1, g2, g3⟩ := rd_getS (Kn.rd_below H.out HS.out.below) 2 rfl k hlt
      obtain ⟨u, rfl, g4⟩ := kPlace_open g1
      obtain ⟨A2, c2, rfl, _⟩ := rd_slice g4
      have e0 := g2 _ rfl
      have e1 := g3 0 _ rfl
      have HP := hid g1
      have hpr := HR.out l[k] (List.getElem_mem hlt)
      have hl2 : l[k].nodes.length ≤ 1000000 := Nat.le_trans hpr.l1 (by decide)
      have HPR := hid hpr
      obtain ⟨wo, rfl⟩ : ∃ wo : World, wo = wr := ⟨_, rfl⟩
      have S3 := hid (HS.out.box2 wo.heap.size rfl [.int .i64 l[k].ep, .slice A2 l[k].nodes.length c2] 214)
      have b4 := (HS.out.front 3 _ rfl).blk_lt
      have b5 := (HS.out.front 2 _ rfl).blk_lt
      have hpos : 0 < l[k].nodes.length := hpr.l0
      clear g1 g2 g3 g4 hpr
      by_cases hf : frm ∈ l[k].nodes
      · obtain ⟨i, hi, hil⟩ := idx_mem0 hf
        have HIX : ∀ (cs : List Value) (w : World) (h : kPlace.rd w l[k] cs), Calls Try.prog 115 #[.agg cs.toArray, .int .i64 frm] w (Ret (.int .i64 i) w) := fun v w h => hi ▸ pIndex_any l[k] v frm w h
        have eb1 : decide ((i : Int) ≥ 0) = true := by simp
        have hm1 : mv1 frm tt l[k] = ⟨l[k].ep + 1, l[k].nodes.set i tt⟩ := by simp [mv1, hf, hi]
        have hg1 : grs frm (l.take (k + 1)) = grs frm (l.take k) ++ [(k : Int)] := by rw [take_snoc hlt, grs_snoc, if_pos hf]; simp; omega
        have ew : IntKind.i64.wrap (l[k].ep + 1) = l[k].ep + 1 := IntWalk.i64_in _ (by have := HPR.out.e0; have := HPR.out.e1; omega)
        have HM := hid hm1
        have HG := hid hg1
        clear hf hi hm1 hg1
        have HL1 : Hid (((grs frm (l.take k)).length + 1) * 8 ≤ 140737488355328) := by show _ ≤ _; have := grs_len frm (l.take k); rw [List.length_take] at this; omega
        have HL2 : Hid ((((l.take k).map (mv1 frm tt)).length + 1) * 32 ≤ 140737488355328) := by show _ ≤ _; rw [List.length_map, List.length_take]; omega
        go_wp2_with (first
          | (go_at_call 120; refine (own_any l[k] _ _ (Kn.rd_below HP.out (below1 _ _)) hl2).mono ?_; rintro e w1 ⟨v1, rfl, h4⟩; have S4 := hid (S3.out.frame h4); simp only [List.cons_append, List.nil_append] at S4; obtain ⟨g, cap, rfl, _, _, hg, _⟩ := h4.row_form hpos; have hg : wo.heap.size < g := (by simp at hg; omega); have hg1 : wo.heap.size ≠ g := (by omega); have hg2 : g ≠ wo.heap.size := (by omega); have S5 := hid (((S4.out.front 1 _ rfl).set_blk 0 (.int .i64 l[k].ep)).set_blk 1 (.slice (some ⟨g, 0, none⟩) l[k].nodes.length cap)); simp only [List.eraseIdx_cons_succ, List.eraseIdx_cons_zero, List.set_cons_zero, List.set_cons_succ] at S5; have e2 := S4.out.at 5 rfl 0 _ rfl; have e3 := S4.out.at 4 rfl 0 _ rfl; have e4 := S4.out.at 1 rfl 0 _ rfl; have e5 := S4.out.at 1 rfl 1 _ rfl)
          | (go_at_call 115; refine (HIX _ _ (Kn.rd_of (kPlace_mk (p := l[k]) (row_rep (S5.out.front 1 _ rfl).head)))).mono ?_; rintro e w2 ⟨rfl, hb2⟩; have S6 := hid (S5.out.go hb2); have f4 := S6.out.at 0 rfl 0 _ rfl; have f5 := S6.out.at 0 rfl 1 _ rfl; have f3 := S6.out.at 4 rfl 0 _ rfl; have f6 := row_head (S6.out.front 1 _ rfl) i hil; have S7 := hid (((((S6.out.front 1 _ rfl).set_row i tt).front 1 _ rfl).set_blk 0 (.int .i64 (l[k].ep + 1))).front 3 _ rfl); simp only [List.eraseIdx_cons_succ, List.eraseIdx_cons_zero, List.set_cons_zero, List.set_cons_succ] at S7; have S8 := hid (S7.out.inn1 .i64 (k : Int)))
          | (at_builtin; refine app1n w2.heap.size (by simp) rfl _ _ 25 _ 8 rfl Try.underlying25 info3 rfl (by decide) (by decide) S8.out rfl rfl HL1.out ?_; intro vg w3 h7 _; have HG7 := hid h7; have q0 := h7.at 1 rfl 0 _ rfl; have q1 := h7.at 1 rfl 1 _ rfl; clear h7; have S9 := hid ((((HG7.out.front 2 _ rfl).say (c' := Ck.inn kPlace [⟨l[k].ep + 1, l[k].nodes.set i tt⟩] [.int .i64 (l[k].ep + 1), .slice (some ⟨g, 0, none⟩) l[k].nodes.length cap]) (inn_place _)).front 3 _ rfl)); simp only [List.eraseIdx_cons_succ, List.eraseIdx_cons_zero] at S9)
          | (at_builtin; refine app1 rfl _ _ 57 _ 32 rfl Try.underlying57 info214 rfl (by decide) (by decide) S9.out rfl rfl HL2.out ?_; intro vo w4 h8 _; have HN := hid h8; clear h8))
        go_roundw
        case rel => exact ⟨k + 1, by go_num, by omega, by rw [HG.out, take_snoc hlt, List.map_append, List.map_cons, HM.out]; exact HN.out.perm [0, 1, 3, 4] 5 (by decide) (by decide) (by simp)⟩
        case measure => simp [intOf]; omega
      · have hi := idx_of_not (k := 0) hf
        have HIX : ∀ (cs : List Value) (w : World) (h : kPlace.rd w l[k] cs), Calls Try.prog 115 #[.agg cs.toArray, .int .i64 frm] w (Ret (.int .i64 (-1)) w) := fun v w h => hi ▸ pIndex_any l[k] v frm w h
        have HM : Hid (mv1 frm tt l[k] = ⟨l[k].ep, l[k].nodes⟩) := by show _ = _; simp [mv1, hf]
        have HG : Hid (grs frm (l.take (k + 1)) = grs frm (l.take k)) := by show _ = _; rw [take_snoc hlt, grs_snoc, if_neg hf]; simp
        clear hf hi
        have HL2 : Hid ((((l.take k).map (mv1 frm tt)).length + 1) * 32 ≤ 140737488355328) := by show _ ≤ _; rw [List.length_map, List.length_take]; omega
        go_wp2_with (first
          | (go_at_call 120; refine (own_any l[k] _ _ (Kn.rd_below HP.out (below1 _ _)) hl2).mono ?_; rintro e w1 ⟨v1, rfl, h4⟩; have S4 := hid (S3.out.frame h4); simp only [List.cons_append, List.nil_append] at S4; obtain ⟨g, cap, rfl, _, _, hg, _⟩ := h4.row_form hpos; have hg : wo.heap.size < g := (by simp at hg; omega); have hg1 : wo.heap.size ≠ g := (by omega); have hg2 : g ≠ wo.heap.size := (by omega); have S5 := hid (((S4.out.front 1 _ rfl).set_blk 0 (.int .i64 l[k].ep)).set_blk 1 (.slice (some ⟨g, 0, none⟩) l[k].nodes.length cap)); simp only [List.eraseIdx_cons_succ, List.eraseIdx_cons_zero, List.set_cons_zero, List.set_cons_succ] at S5; have e2 := S4.out.at 5 rfl 0 _ rfl; have e3 := S4.out.at 4 rfl 0 _ rfl; have e4 := S4.out.at 1 rfl 0 _ rfl; have e5 := S4.out.at 1 rfl 1 _ rfl)
          | (go_at_call 115; refine (HIX _ _ (Kn.rd_of (kPlace_mk (p := l[k]) (row_rep (S5.out.front 1 _ rfl).head)))).mono ?_; rintro e w2 ⟨rfl, hb2⟩; have S6 := hid (S5.out.go hb2); have f4 := S6.out.at 0 rfl 0 _ rfl; have f5 := S6.out.at 0 rfl 1 _ rfl; have S9 := hid ((((S6.out.front 1 _ rfl).say (c' := Ck.inn kPlace [⟨l[k].ep, l[k].nodes⟩] [.int .i64 l[k].ep, .slice (some ⟨g, 0, none⟩) l[k].nodes.length cap]) (inn_place _)).front 2 _ rfl)); simp only [List.eraseIdx_cons_succ, List.eraseIdx_cons_zero] at S9)
          | (at_builtin; refine app1 rfl _ _ 57 _ 32 rfl Try.underlying57 info214 rfl (by decide) (by decide) S9.out rfl rfl HL2.out ?_; intro vo w4 h8 _; have HN := hid h8; clear h8))
        go_roundw
        case rel => exact ⟨k + 1, by go_num, by omega, by rw [HG.out, take_snoc hlt, List.map_append, List.map_cons, HM.out]; exact HN.out.perm [0, 2, 3, 4] 5 (by decide) (by decide) (by simp)⟩
        case measure => simp [intOf]; omega
    · obtain rfl : k = l.length := by omega
      rw [List.take_length] at HS
      go_wp2
      refine bodyPost_ret (v := .tuple #[u11, u12, .int .i64 0]) (by simp [results, Try.results27, go_sem]) rfl ⟨_, _, rfl, ?_⟩
      exact HS.out.perm [0, 1] 4 (by decide) (by decide) (by simp)
end Go.Proofs.Ytihfikepfhcboaa
