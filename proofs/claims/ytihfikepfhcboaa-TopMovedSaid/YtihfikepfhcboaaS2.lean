/-
  Walks: moved17: the groups that a wish meets are turned.
-/
import Derived.Test.YtihfikepfhcboaaP7
import Derived.Test.YtihfikepfhcboaaR2
import Derived.Deep.RegionHeld3
namespace Go.Proofs.Ytihfikepfhcboaa
open Go.RowKit Go.Maps

set_option maxHeartbeats 8000000 in
set_option maxRecDepth 100000 in
theorem blk8 {u0 u1 u2 u3 u4 u5 u6 u7 u8 u9 u10 u11 u12 u13 u15 u16 u17 u18 u19 u20 u23 u24 u25 u26 u27 u28 u29 u30 u31 u32 u33 u34 u35 u36 u37 u38 u39 u40 u41 u42 u43 u44 u45 u46 u47 u48 u49 u50 u51 u52 u53 u54 u55 u56 u57 u58 u59 u60 u61 u62 u63 u64 u65 u66 u67 u68 u69 u70 u71 u72 u73 u74 u75 u76 u77 u78 u79 u80 u81 u82 u83 u84 u85 u86 u87 u88 u89 u90 u91 u92 u93 u94 u95 u96 u97 u98 u99 u100 u101 u102 u103 u104 u105 u106 u107 u108 u109 u110 u111 u112 u113 u114 u115 u116 u117 u118 u119 u120 u121 u122 u123 u124 u125 u126 u127 u128 u129 u130 u131 u132 u133 u134 u135 u136 u137 u138 u139 u140 u141 u142 u143 u144 u145 u146 u147 u148 u149 u150 u151 u152 u153 u154 u155 u156 u157 u158 u159 u160 u161 u162 u163 u164 u165 u166 u167 u168 u169 u170 u171 u172 u173 u174 u175 u176 u177 u178 u179 u180 u181 u185 u186 u187 u188 u189 u190 u191 u192 u193 u194 u195 u196 u197 u198 u199 u200 u201 u202 u203 u204 u205 u206 u207 u208 u209 u210 u211 u212 u213 u214 u215 u216 u217 u218 u219 u220 u221 u222 u223 u224 u225 u226 u227 u228 u229 u230 u231 u232 u233 u234 u235 u236 u237 u238 u239 u240 u241 u242 u243 u244 u245 u246 u247 u248 u249 u250 u251 u252 u253 u254 u255 u256 u257 u258 u259 u260 u261 u262 u263 u264 u265 u266 u267 u268 u269 u270 u271 u272 u273 u274 u275 u276 u277 u278 u279 u280 u281 u282 u283 u284 u285 u286 u287 u288 u289 u290 u291 u292 u293 u294 u295 u296 u297 u298 u299 u300 u301 u302 u303 u304 u305 u306 u307 u308 u309 u310 u311 u312 u313 u314 u315 u316 u317 u318 u319 u320 u321 u322 u323 u324 u325 u326 u327 u328 u329 u330 u331 u332 u333 u334 u335 u336 u337 u338 u339 : Value} {RR : Act → World → Prop} (l : List Place) (gs : List Grp) (frm tt : Int) (bX : Nat) (A23 AN : Option Addr) (c23 cN ge ce : Nat) (k0 k1 k2 k3 k4 k6 k10 : Ck) (w0 : World) (B : Nat) (w : World)
    (hgs : gs.map (·.xs) = l.map (·.nodes)) (hl : l.length ≤ 1000) (L' : List Place) (hL' : l.map (mv1 frm tt) = L') (hR : ∀ p ∈ l, PRight p)
    (S : Star (k0 :: k1 :: k2 :: k3 :: k4 :: Ck.row 3 (.int .i64) (.slice A23 (grs frm l).length c23) (grs frm l) :: k6 :: Ck.blk bX [.slice AN l.length cN, .slice (some ⟨ge, 0, none⟩) l.length ce] 64 :: Ck.row 25 kDsc (.slice AN l.length cN) (gs.map Grp.dsc) :: Ck.row 3 (.int .i64) (.slice (some ⟨ge, 0, none⟩) l.length ce) (l.map (·.ep)) :: k10 :: gs.map Grp.ck) w0 B w)
    (hRR : ∀ (z33 z184 z185 z186 z187 z188 z189 z190 z191 z192 z193 z194 z195 z196 z197 z198 z199 z200 z201 z202 z203 z204 z205 z206 z207 z208 z209 z210 : Value) (w' : World), Hid (∃ gs' : List Grp, gs'.map (·.xs) = L'.map (·.nodes) ∧
      Star (k0 :: k1 :: k2 :: k3 :: k4 :: Ck.row 3 (.int .i64) (.slice A23 (grs frm l).length c23) (grs frm l) :: k6 :: Ck.blk bX [.slice AN l.length cN, .slice (some ⟨ge, 0, none⟩) l.length ce] 64 :: Ck.row 25 kDsc (.slice AN l.length cN) (gs'.map Grp.dsc) :: Ck.row 3 (.int .i64) (.slice (some ⟨ge, 0, none⟩) l.length ce) (L'.map (·.ep)) :: k10 :: gs'.map Grp.ck) w0 B w') → RR ⟨(u0 :: u1 :: u2 :: u3 :: u4 :: u5 :: u6 :: u7 :: u8 :: u9 :: u10 :: u11 :: u12 :: u13 :: .pointer (some ⟨bX, 0, none⟩) :: u15 :: u16 :: u17 :: u18 :: u19 :: u20 :: .int .i64 frm :: .int .i64 tt :: u23 :: u24 :: u25 :: u26 :: u27 :: u28 :: u29 :: u30 :: u31 :: u32 :: z33 :: u34 :: u35 :: u36 :: u37 :: u38 :: u39 :: u40 :: u41 :: u42 :: u43 :: u44 :: u45 :: u46 :: u47 :: u48 :: u49 :: u50 :: u51 :: u52 :: u53 :: u54 :: u55 :: u56 :: u57 :: u58 :: u59 :: u60 :: u61 :: u62 :: u63 :: u64 :: u65 :: u66 :: u67 :: u68 :: u69 :: u70 :: u71 :: u72 :: u73 :: u74 :: u75 :: u76 :: u77 :: u78 :: u79 :: u80 :: u81 :: u82 :: u83 :: u84 :: u85 :: u86 :: u87 :: u88 :: u89 :: u90 :: u91 :: u92 :: u93 :: u94 :: u95 :: u96 :: u97 :: u98 :: u99 :: u100 :: u101 :: u102 :: u103 :: u104 :: u105 :: u106 :: u107 :: u108 :: u109 :: u110 :: u111 :: u112 :: u113 :: u114 :: u115 :: u116 :: u117 :: u118 :: u119 :: u120 :: u121 :: u122 :: u123 :: u124 :: u125 :: u126 :: u127 :: u128 :: u129 :: u130 :: u131 :: u132 :: u133 :: u134 :: u135 :: u136 :: u137 :: u138 :: u139 :: u140 :: u141 :: u142 :: u143 :: u144 :: u145 :: u146 :: u147 :: u148 :: u149 :: u150 :: u151 :: u152 :: u153 :: u154 :: u155 :: u156 :: u157 :: u158 :: u159 :: u160 :: u161 :: u162 :: u163 :: u164 :: u165 :: u166 :: u167 :: u168 :: u169 :: u170 :: u171 :: u172 :: u173 :: u174 :: u175 :: u176 :: u177 :: u178 :: u179 :: u180 :: u181 :: .slice A23 (grs frm l).length c23 :: .int .i64 ((grs frm l).length : Nat) :: z184 :: z185 :: z186 :: z187 :: z188 :: z189 :: z190 :: z191 :: z192 :: z193 :: z194 :: z195 :: z196 :: z197 :: z198 :: z199 :: z200 :: z201 :: z202 :: z203 :: z204 :: z205 :: z206 :: z207 :: z208 :: z209 :: z210 :: u211 :: u212 :: u213 :: u214 :: u215 :: u216 :: u217 :: u218 :: u219 :: u220 :: u221 :: u222 :: u223 :: u224 :: u225 :: u226 :: u227 :: u228 :: u229 :: u230 :: u231 :: u232 :: u233 :: u234 :: u235 :: u236 :: u237 :: u238 :: u239 :: u240 :: u241 :: u242 :: u243 :: u244 :: u245 :: u246 :: u247 :: u248 :: u249 :: u250 :: u251 :: u252 :: u253 :: u254 :: u255 :: u256 :: u257 :: u258 :: u259 :: u260 :: u261 :: u262 :: u263 :: u264 :: u265 :: u266 :: u267 :: u268 :: u269 :: u270 :: u271 :: u272 :: u273 :: u274 :: u275 :: u276 :: u277 :: u278 :: u279 :: u280 :: u281 :: u282 :: u283 :: u284 :: u285 :: u286 :: u287 :: u288 :: u289 :: u290 :: u291 :: u292 :: u293 :: u294 :: u295 :: u296 :: u297 :: u298 :: u299 :: u300 :: u301 :: u302 :: u303 :: u304 :: u305 :: u306 :: u307 :: u308 :: u309 :: u310 :: u311 :: u312 :: u313 :: u314 :: u315 :: u316 :: u317 :: u318 :: u319 :: u320 :: u321 :: u322 :: u323 :: u324 :: u325 :: u326 :: u327 :: u328 :: u329 :: u330 :: u331 :: u332 :: u333 :: u334 :: u335 :: u336 :: u337 :: u338 :: u339 :: []).toArray, []⟩ w') :
    (blkOf 8 (bodyOf Try.f9)).wp Try.prog (Ends RR)
      ⟨(u0 :: u1 :: u2 :: u3 :: u4 :: u5 :: u6 :: u7 :: u8 :: u9 :: u10 :: u11 :: u12 :: u13 :: .pointer (some ⟨bX, 0, none⟩) :: u15 :: u16 :: u17 :: u18 :: u19 :: u20 :: .int .i64 frm :: .int .i64 tt :: u23 :: u24 :: u25 :: u26 :: u27 :: u28 :: u29 :: u30 :: u31 :: u32 :: u33 :: u34 :: u35 :: u36 :: u37 :: u38 :: u39 :: u40 :: u41 :: u42 :: u43 :: u44 :: u45 :: u46 :: u47 :: u48 :: u49 :: u50 :: u51 :: u52 :: u53 :: u54 :: u55 :: u56 :: u57 :: u58 :: u59 :: u60 :: u61 :: u62 :: u63 :: u64 :: u65 :: u66 :: u67 :: u68 :: u69 :: u70 :: u71 :: u72 :: u73 :: u74 :: u75 :: u76 :: u77 :: u78 :: u79 :: u80 :: u81 :: u82 :: u83 :: u84 :: u85 :: u86 :: u87 :: u88 :: u89 :: u90 :: u91 :: u92 :: u93 :: u94 :: u95 :: u96 :: u97 :: u98 :: u99 :: u100 :: u101 :: u102 :: u103 :: u104 :: u105 :: u106 :: u107 :: u108 :: u109 :: u110 :: u111 :: u112 :: u113 :: u114 :: u115 :: u116 :: u117 :: u118 :: u119 :: u120 :: u121 :: u122 :: u123 :: u124 :: u125 :: u126 :: u127 :: u128 :: u129 :: u130 :: u131 :: u132 :: u133 :: u134 :: u135 :: u136 :: u137 :: u138 :: u139 :: u140 :: u141 :: u142 :: u143 :: u144 :: u145 :: u146 :: u147 :: u148 :: u149 :: u150 :: u151 :: u152 :: u153 :: u154 :: u155 :: u156 :: u157 :: u158 :: u159 :: u160 :: u161 :: u162 :: u163 :: u164 :: u165 :: u166 :: u167 :: u168 :: u169 :: u170 :: u171 :: u172 :: u173 :: u174 :: u175 :: u176 :: u177 :: u178 :: u179 :: u180 :: u181 :: .slice A23 (grs frm l).length c23 :: .int .i64 ((grs frm l).length : Nat) :: .int .i64 0 :: u185 :: u186 :: u187 :: u188 :: u189 :: u190 :: u191 :: u192 :: u193 :: u194 :: u195 :: u196 :: u197 :: u198 :: u199 :: u200 :: u201 :: u202 :: u203 :: u204 :: u205 :: u206 :: u207 :: u208 :: u209 :: u210 :: u211 :: u212 :: u213 :: u214 :: u215 :: u216 :: u217 :: u218 :: u219 :: u220 :: u221 :: u222 :: u223 :: u224 :: u225 :: u226 :: u227 :: u228 :: u229 :: u230 :: u231 :: u232 :: u233 :: u234 :: u235 :: u236 :: u237 :: u238 :: u239 :: u240 :: u241 :: u242 :: u243 :: u244 :: u245 :: u246 :: u247 :: u248 :: u249 :: u250 :: u251 :: u252 :: u253 :: u254 :: u255 :: u256 :: u257 :: u258 :: u259 :: u260 :: u261 :: u262 :: u263 :: u264 :: u265 :: u266 :: u267 :: u268 :: u269 :: u270 :: u271 :: u272 :: u273 :: u274 :: u275 :: u276 :: u277 :: u278 :: u279 :: u280 :: u281 :: u282 :: u283 :: u284 :: u285 :: u286 :: u287 :: u288 :: u289 :: u290 :: u291 :: u292 :: u293 :: u294 :: u295 :: u296 :: u297 :: u298 :: u299 :: u300 :: u301 :: u302 :: u303 :: u304 :: u305 :: u306 :: u307 :: u308 :: u309 :: u310 :: u311 :: u312 :: u313 :: u314 :: u315 :: u316 :: u317 :: u318 :: u319 :: u320 :: u321 :: u322 :: u323 :: u324 :: u325 :: u326 :: u327 :: u328 :: u329 :: u330 :: u331 :: u332 :: u333 :: u334 :: u335 :: u336 :: u337 :: u338 :: u339 :: []).toArray, []⟩ w := by
  conv => arg 2; whnf
  have HRR := hid hRR
  clear hRR
  have HGS0 := hid hgs
  have S6 := hid S
  have HRl := hid hR
  have HL' := hid hL'
  clear hgs S hR hL'
  go_wp2
  go_loopw [33, 184] (fun _ i wr' => ∃ (q : Nat) (gs' : List Grp), i = .int .i64 q ∧ q ≤ (grs frm l).length ∧ Hid (gs'.map (·.xs) = (mvs frm tt l ((grs frm l).take q)).map (·.nodes)) ∧
    Hid (Star (k0 :: k1 :: k2 :: k3 :: k4 :: Ck.row 3 (.int .i64) (.slice A23 (grs frm l).length c23) (grs frm l) :: k6 :: Ck.blk bX [.slice AN l.length cN, .slice (some ⟨ge, 0, none⟩) l.length ce] 64 :: Ck.row 25 kDsc (.slice AN l.length cN) (gs'.map Grp.dsc) :: Ck.row 3 (.int .i64) (.slice (some ⟨ge, 0, none⟩) l.length ce) ((mvs frm tt l ((grs frm l).take q)).map (·.ep)) :: k10 :: gs'.map Grp.ck) w0 B wr')) (fun _ i _ => (grs frm l).length - (intOf i).toNat)
  case atStart => exact ⟨0, gs, rfl, by omega, HGS0.out, S6.out⟩
  case round =>
    clear S6 HGS0
    obtain ⟨q, gs', rfl, hq, HGS, HS⟩ := hrel
    by_cases hlq : q < (grs frm l).length
    · obtain ⟨g, hg, hgx, hget, hfm, hnx⟩ := mvs_next (tt := tt) hlq
      obtain ⟨i, hi, hil⟩ := idx_mem0 hfm
      obtain ⟨adg, rfl, hcg⟩ := rd_get1 (HS.out.front 5 _ rfl).row_rd q hlq
      rw [hgx] at hcg
      have hpr := HRl.out _ (List.getElem_mem hg)
      have hep := hpr.e1
      have hep0 := hpr.e0
      have hn255 := hpr.l1
      have hLl := mvs_len frm tt l ((grs frm l).take q)
      obtain ⟨L, hL⟩ : ∃ L, mvs frm tt l ((grs frm l).take q) = L := ⟨_, rfl⟩
      simp only [hL] at HGS HS hget hLl hnx
      have hg' : g < L.length := by omega
      have hgl' : gs'.length = L.length := by have := congrArg List.length HGS.out; simpa using this
      have hgg : g < gs'.length := by omega
      have hxs : gs'[g].xs = l[g].nodes := by rw [xs_at HGS.out hgg hg', hget]
      have hil' : i < gs'[g].xs.length := by rw [hxs]; exact hil
      have hn255' : gs'[g].xs.length ≤ 255 := by rw [hxs]; exact hn255
      have HH : Hid (∀ (w' : World), kSeats.rd w' (seatsOf L) [.pointer (some ⟨bX, 0, none⟩)] → Calls Try.prog 26 #[.pointer (some ⟨bX, 0, none⟩), .int .i64 g, .int .i64 frm] w' (RetW (.int .i64 (i : Nat)) w')) := fun w' hh => by
        have := has_any (seatsOf L) _ g frm w' hh (by simp [seatsOf, hg'])
        have hn : (seatsOf L).nodes[g]'(by simp [seatsOf, hg']) = l[g].nodes := by simp [seatsOf, hget]
        rw [hn, hi] at this
        exact this
      have HX := hid (mem_seats HGS.out HS.out.drew.tail.tail.tail.tail.tail.tail.tail)
      obtain ⟨adN, rfl, hcN⟩ := dsc_cell (HS.out.front 8 _ rfl).row_rd g hgg
      have eN := (HS.out.at 7 rfl 0 _ rfl).1
      have eX := grp_cellN HS.out 11 rfl g hgg i hil'
      have S7 := hid (HS.out.put_grpN 11 rfl g hgg i tt)
      have hM1 : mv1 frm tt l[g] = ⟨l[g].ep + 1, l[g].nodes.set i tt⟩ := by simp [mv1, hfm, hi]
      have HNX := hid hnx
      have HM1 := hid hM1
      have HXS := hid hxs
      have HN : Hid ((putG gs' g i tt).map (·.xs) = (L.set g (mv1 frm tt l[g])).map (·.nodes)) := set_xs HGS.out hgg (by rw [HM1.out, HXS.out])
      have HEP : Hid ((L.map (·.ep)).set g (l[g].ep + 1) = (L.set g (mv1 frm tt l[g])).map (·.ep)) := by show _ = _; rw [List.map_set, HM1.out]
      have hLep : g < (L.map (·.ep)).length := by simpa using hg'
      have eG := row_head (S7.out.front 9 _ rfl) g hLep
      rw [List.getElem_map, hget] at eG
      have eE := (S7.out.at 7 rfl 1 _ rfl).1
      have hw : IntKind.i64.wrap (l[g].ep + 1) = l[g].ep + 1 := IntWalk.i64_in _ (by omega)
      clear hnx hM1 hxs hget hfm hi hpr
      have HLQ := hid hlq
      have hgl := grs_len frm l
      have HK0 : Hid (wr.drew.cell? ⟨bX, 0, none⟩ = some (.slice (some adN) l.length cN) ∧ wr.drew.cell? (adN.add g) = some (.slice (some ⟨gs'[g].g, 0, none⟩) gs'[g].xs.length gs'[g].c)) := ⟨eN, hcN⟩
      have HK1 : Hid ((wr.drew.setCell ⟨gs'[g].g, i, none⟩ (.int .i64 tt)).cell? ⟨bX, 0, none⟩ = some (.slice (some adN) l.length cN) ∧ (wr.drew.setCell ⟨gs'[g].g, i, none⟩ (.int .i64 tt)).cell? (adN.add g) = some (.slice (some ⟨gs'[g].g, 0, none⟩) gs'[g].xs.length gs'[g].c)) := by
        obtain ⟨ad, h1, h2⟩ := dsc_cell (S7.out.drew.front 8 _ rfl).row_rd g hgg
        cases h1
        exact ⟨(S7.out.at 7 rfl 0 _ rfl).1, h2⟩
      go_wp2
      go_region_held3 (fun w' => w'.cell? ⟨bX, 0, none⟩ = some (.slice (some adN) l.length cN) ∧ w'.cell? (adN.add g) = some (.slice (some ⟨gs'[g].g, 0, none⟩) gs'[g].xs.length gs'[g].c)) (first | exact HK0.out | exact HK1.out) (first | (go_at_call 26; refine (HH.out _ HX.out).mono ?_; rintro e w3 ⟨rfl, rfl⟩))
      all_goals
        go_wp2
        go_roundw
        case rel =>
          refine ⟨q + 1, putG gs' g i tt, by go_num, by have := HLQ.out; omega, ?_, ?_⟩
          · rw [HNX.out]; exact HN.out
          · rw [HNX.out, ← HEP.out, putG_dsc]
            exact (((S7.out.front 9 _ rfl).set_row g (l[g].ep + 1)).perm [1, 2, 3, 4, 5, 6, 7, 8, 9, 0, 10] 11 (by decide) (by decide) (by simp)).drew
        case measure => have := HLQ.out; simp [intOf]; omega
    · obtain rfl : q = (grs frm l).length := by omega
      rw [List.take_length, mvs_all, HL'.out] at HGS
      simp only [List.take_length, mvs_all, HL'.out] at HS
      go_wp2
      exact HRR.out _ _ _ _ _ _ _ _ _ _ _ _ _ _ _ _ _ _ _ _ _ _ _ _ _ _ _ _ _ ⟨gs', HGS.out, HS.out⟩
end Go.Proofs.Ytihfikepfhcboaa
