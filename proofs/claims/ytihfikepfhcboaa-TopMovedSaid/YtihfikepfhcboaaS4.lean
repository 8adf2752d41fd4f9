/-
  Walks: moved17: stripes are mended.
-/
import Derived.Test.YtihfikepfhcboaaP7
import Derived.Test.YtihfikepfhcboaaR2
import Derived.Deep.RegionLaw
namespace Go.Proofs.Ytihfikepfhcboaa
open Go.RowKit Go.Maps

theorem Star.numsn {cs : List Ck} {w0 w : World} {B : Nat} (h : Star cs w0 B w) (b : Nat) (hb : w.heap.size = b) (e : TypeId) (k : IntKind) (xs : List Int) (hm : xs.length ≤ maxLen) :
    Star (Ck.row e (.int k) (.slice (some ⟨b, 0, none⟩) xs.length xs.length) xs :: cs) w0 B (w.alloc (.cells (xs.map (Value.int k)).toArray e)) := by subst hb; exact h.nums e k xs hm

theorem rd_none {α : Type} {d : Kn α} {w : World} {a : Addr} {n c : Nat} (hn : n = 0) : (Kn.slice d).rd w ([] : List α) [.slice (some a) n c] := by
  subst hn
  exact ⟨some a, c, rfl, fun e => (by cases e), Nat.zero_le _, Nat.zero_le _, .inl rfl⟩

set_option maxHeartbeats 8000000 in
set_option maxRecDepth 100000 in
theorem blk14 {u0 u1 u2 u3 u4 u5 u6 u7 u8 u9 u10 u11 u12 u13 u14 u15 u16 u17 u18 u19 u20 u23 u24 u25 u26 u27 u28 u29 u31 u32 u33 u35 u36 u37 u38 u39 u40 u41 u42 u43 u44 u45 u46 u47 u48 u49 u50 u51 u52 u53 u54 u55 u56 u57 u58 u59 u60 u61 u62 u63 u64 u65 u66 u67 u68 u69 u70 u71 u72 u73 u74 u75 u76 u77 u78 u79 u80 u81 u82 u83 u84 u85 u86 u87 u88 u89 u90 u91 u92 u93 u94 u95 u96 u97 u98 u99 u100 u101 u102 u103 u104 u105 u106 u107 u108 u109 u110 u111 u112 u113 u114 u115 u116 u117 u118 u119 u120 u121 u122 u123 u124 u125 u126 u127 u128 u129 u130 u131 u132 u133 u134 u135 u136 u137 u138 u139 u140 u141 u142 u143 u144 u145 u146 u147 u148 u149 u150 u151 u152 u153 u154 u155 u156 u157 u158 u159 u160 u161 u162 u163 u164 u165 u166 u167 u168 u169 u170 u171 u172 u173 u174 u175 u176 u177 u178 u179 u180 u181 u182 u183 u184 u185 u186 u187 u188 u189 u190 u191 u192 u193 u194 u195 u196 u197 u198 u199 u200 u201 u202 u203 u204 u205 u206 u207 u208 u209 u210 u211 u212 u213 u214 u215 u216 u217 u218 u219 u220 u221 u222 u223 u224 u225 u226 u227 u228 u229 u230 u231 u232 u233 u234 u235 u236 u237 u238 u239 u240 u241 u242 u243 u244 u245 u246 u247 u248 u249 u250 u251 u252 u253 u254 u255 u256 u257 u258 u259 u260 u261 u262 u263 u264 u265 u266 u267 u268 u269 u270 u271 u272 u273 u274 u275 u279 u280 u281 u282 u283 u284 u285 u286 u287 u288 u289 u290 u291 u292 u293 u294 u295 u296 u297 u298 u299 u300 u301 u302 u303 u304 u305 u306 u307 u308 u309 u310 u311 u312 u313 u314 u315 u316 u317 u318 u319 u320 u321 u322 u323 u324 u325 u326 u327 u328 u329 u330 u331 u332 u333 u334 u335 u336 u337 u338 u339 : Value} {RR : Act → World → Prop} (frm tt : Int) (lf0 ms : List Int) (b30 cm : Nat) (Am : Option Addr) (v34 v2 : Value) (R : List Ck) (w0 w : World)
    (f0 : 0 ≤ frm) (f1 : frm < 9) (t0 : 0 ≤ tt) (t1 : tt < 9) (hne : frm ≠ tt) (hlf : Rise lf0) (hll : lf0.length ≤ 1000) (hm : kBytes.rd w0 ms [.slice Am ms.length cm]) (hmm : ms.length ≤ 9223372036854775807) (hmb : ∀ x ∈ ms, 0 ≤ x ∧ x < 256)
    (S : Star (Ck.row 3 (.int .i64) v34 lf0 :: Ck.blk b30 [.int .i64 frm, .int .i64 tt, v2] 55 :: Ck.row 3 (.int .i64) v2 lf0 :: R) w0 w0.heap.size w)
    (hRR : ∀ (z10 z11 z34 z40 z41 z42 z43 z44 z45 z278 z279 z280 z281 z282 z283 z284 z285 z286 z287 z288 z289 z290 z291 z292 z293 z294 z295 z296 z297 z298 z299 z300 z301 z302 z303 z304 z305 z306 z307 z308 z309 z310 z311 z312 z313 z314 z315 z316 z317 z318 z319 z320 z321 z322 z323 z324 z325 z326 z327 z328 z329 z330 z331 z332 z333 z334 z335 z336 z337 : Value) (w' : World), Hid (Star R w0 w0.heap.size w') → RR ⟨(u0 :: u1 :: u2 :: u3 :: u4 :: u5 :: u6 :: u7 :: u8 :: u9 :: z10 :: z11 :: u12 :: u13 :: u14 :: u15 :: u16 :: u17 :: u18 :: u19 :: u20 :: .int .i64 frm :: .int .i64 tt :: u23 :: u24 :: u25 :: u26 :: u27 :: u28 :: u29 :: .pointer (some ⟨b30, 0, none⟩) :: u31 :: u32 :: u33 :: z34 :: u35 :: u36 :: u37 :: u38 :: u39 :: z40 :: z41 :: z42 :: z43 :: z44 :: z45 :: u46 :: u47 :: u48 :: u49 :: u50 :: u51 :: u52 :: u53 :: u54 :: u55 :: u56 :: u57 :: u58 :: u59 :: u60 :: u61 :: u62 :: u63 :: u64 :: u65 :: u66 :: u67 :: u68 :: u69 :: u70 :: u71 :: u72 :: u73 :: u74 :: u75 :: u76 :: u77 :: u78 :: u79 :: u80 :: u81 :: u82 :: u83 :: u84 :: u85 :: u86 :: u87 :: u88 :: u89 :: u90 :: u91 :: u92 :: u93 :: u94 :: u95 :: u96 :: u97 :: u98 :: u99 :: u100 :: u101 :: u102 :: u103 :: u104 :: u105 :: u106 :: u107 :: u108 :: u109 :: u110 :: u111 :: u112 :: u113 :: u114 :: u115 :: u116 :: u117 :: u118 :: u119 :: u120 :: u121 :: u122 :: u123 :: u124 :: u125 :: u126 :: u127 :: u128 :: u129 :: u130 :: u131 :: u132 :: u133 :: u134 :: u135 :: u136 :: u137 :: u138 :: u139 :: u140 :: u141 :: u142 :: u143 :: u144 :: u145 :: u146 :: u147 :: u148 :: u149 :: u150 :: u151 :: u152 :: u153 :: u154 :: u155 :: u156 :: u157 :: u158 :: u159 :: u160 :: u161 :: u162 :: u163 :: u164 :: u165 :: u166 :: u167 :: u168 :: u169 :: u170 :: u171 :: u172 :: u173 :: u174 :: u175 :: u176 :: u177 :: u178 :: u179 :: u180 :: u181 :: u182 :: u183 :: u184 :: u185 :: u186 :: u187 :: u188 :: u189 :: u190 :: u191 :: u192 :: u193 :: u194 :: u195 :: u196 :: u197 :: u198 :: u199 :: u200 :: u201 :: u202 :: u203 :: u204 :: u205 :: u206 :: u207 :: u208 :: u209 :: u210 :: u211 :: u212 :: u213 :: u214 :: u215 :: u216 :: u217 :: u218 :: u219 :: u220 :: u221 :: u222 :: u223 :: u224 :: u225 :: u226 :: u227 :: u228 :: u229 :: u230 :: u231 :: u232 :: u233 :: u234 :: u235 :: u236 :: u237 :: u238 :: u239 :: u240 :: u241 :: u242 :: u243 :: u244 :: u245 :: u246 :: u247 :: u248 :: u249 :: u250 :: u251 :: u252 :: u253 :: u254 :: u255 :: u256 :: u257 :: u258 :: u259 :: u260 :: u261 :: u262 :: u263 :: u264 :: u265 :: u266 :: u267 :: u268 :: u269 :: u270 :: u271 :: u272 :: u273 :: u274 :: u275 :: .slice Am ms.length cm :: .int .i64 (ms.length : Nat) :: z278 :: z279 :: z280 :: z281 :: z282 :: z283 :: z284 :: z285 :: z286 :: z287 :: z288 :: z289 :: z290 :: z291 :: z292 :: z293 :: z294 :: z295 :: z296 :: z297 :: z298 :: z299 :: z300 :: z301 :: z302 :: z303 :: z304 :: z305 :: z306 :: z307 :: z308 :: z309 :: z310 :: z311 :: z312 :: z313 :: z314 :: z315 :: z316 :: z317 :: z318 :: z319 :: z320 :: z321 :: z322 :: z323 :: z324 :: z325 :: z326 :: z327 :: z328 :: z329 :: z330 :: z331 :: z332 :: z333 :: z334 :: z335 :: z336 :: z337 :: u338 :: u339 :: []).toArray, []⟩ w') :
    (blkOf 14 (bodyOf Try.f9)).wp Try.prog (Ends RR)
      ⟨(u0 :: u1 :: u2 :: u3 :: u4 :: u5 :: u6 :: u7 :: u8 :: u9 :: u10 :: u11 :: u12 :: u13 :: u14 :: u15 :: u16 :: u17 :: u18 :: u19 :: u20 :: .int .i64 frm :: .int .i64 tt :: u23 :: u24 :: u25 :: u26 :: u27 :: u28 :: u29 :: .pointer (some ⟨b30, 0, none⟩) :: u31 :: u32 :: u33 :: v34 :: u35 :: u36 :: u37 :: u38 :: u39 :: u40 :: u41 :: u42 :: u43 :: u44 :: u45 :: u46 :: u47 :: u48 :: u49 :: u50 :: u51 :: u52 :: u53 :: u54 :: u55 :: u56 :: u57 :: u58 :: u59 :: u60 :: u61 :: u62 :: u63 :: u64 :: u65 :: u66 :: u67 :: u68 :: u69 :: u70 :: u71 :: u72 :: u73 :: u74 :: u75 :: u76 :: u77 :: u78 :: u79 :: u80 :: u81 :: u82 :: u83 :: u84 :: u85 :: u86 :: u87 :: u88 :: u89 :: u90 :: u91 :: u92 :: u93 :: u94 :: u95 :: u96 :: u97 :: u98 :: u99 :: u100 :: u101 :: u102 :: u103 :: u104 :: u105 :: u106 :: u107 :: u108 :: u109 :: u110 :: u111 :: u112 :: u113 :: u114 :: u115 :: u116 :: u117 :: u118 :: u119 :: u120 :: u121 :: u122 :: u123 :: u124 :: u125 :: u126 :: u127 :: u128 :: u129 :: u130 :: u131 :: u132 :: u133 :: u134 :: u135 :: u136 :: u137 :: u138 :: u139 :: u140 :: u141 :: u142 :: u143 :: u144 :: u145 :: u146 :: u147 :: u148 :: u149 :: u150 :: u151 :: u152 :: u153 :: u154 :: u155 :: u156 :: u157 :: u158 :: u159 :: u160 :: u161 :: u162 :: u163 :: u164 :: u165 :: u166 :: u167 :: u168 :: u169 :: u170 :: u171 :: u172 :: u173 :: u174 :: u175 :: u176 :: u177 :: u178 :: u179 :: u180 :: u181 :: u182 :: u183 :: u184 :: u185 :: u186 :: u187 :: u188 :: u189 :: u190 :: u191 :: u192 :: u193 :: u194 :: u195 :: u196 :: u197 :: u198 :: u199 :: u200 :: u201 :: u202 :: u203 :: u204 :: u205 :: u206 :: u207 :: u208 :: u209 :: u210 :: u211 :: u212 :: u213 :: u214 :: u215 :: u216 :: u217 :: u218 :: u219 :: u220 :: u221 :: u222 :: u223 :: u224 :: u225 :: u226 :: u227 :: u228 :: u229 :: u230 :: u231 :: u232 :: u233 :: u234 :: u235 :: u236 :: u237 :: u238 :: u239 :: u240 :: u241 :: u242 :: u243 :: u244 :: u245 :: u246 :: u247 :: u248 :: u249 :: u250 :: u251 :: u252 :: u253 :: u254 :: u255 :: u256 :: u257 :: u258 :: u259 :: u260 :: u261 :: u262 :: u263 :: u264 :: u265 :: u266 :: u267 :: u268 :: u269 :: u270 :: u271 :: u272 :: u273 :: u274 :: u275 :: .slice Am ms.length cm :: .int .i64 (ms.length : Nat) :: .int .i64 0 :: u279 :: u280 :: u281 :: u282 :: u283 :: u284 :: u285 :: u286 :: u287 :: u288 :: u289 :: u290 :: u291 :: u292 :: u293 :: u294 :: u295 :: u296 :: u297 :: u298 :: u299 :: u300 :: u301 :: u302 :: u303 :: u304 :: u305 :: u306 :: u307 :: u308 :: u309 :: u310 :: u311 :: u312 :: u313 :: u314 :: u315 :: u316 :: u317 :: u318 :: u319 :: u320 :: u321 :: u322 :: u323 :: u324 :: u325 :: u326 :: u327 :: u328 :: u329 :: u330 :: u331 :: u332 :: u333 :: u334 :: u335 :: u336 :: u337 :: u338 :: u339 :: []).toArray, []⟩ w := by
  conv => arg 2; whnf
  have HRR := hid hRR
  clear hRR
  have S6 := hid S
  have HMs := hid hm
  have HMb := hid hmb
  have HLF := hid hlf
  clear S hm hmb hlf
  go_wp2
  go_loopw [34, 278] (fun v34 i wr' => ∃ (q : Nat) (lf : List Int) (v2 : Value), i = .int .i64 q ∧ q ≤ ms.length ∧ Hid (Rise lf ∧ lf.length ≤ 1000) ∧
    Hid (Star (Ck.row 3 (.int .i64) v34 lf :: Ck.blk b30 [.int .i64 frm, .int .i64 tt, v2] 55 :: Ck.row 3 (.int .i64) v2 lf :: R) w0 w0.heap.size wr')) (fun _ i _ => ms.length - (intOf i).toNat)
  case atStart => exact ⟨0, lf0, v2, rfl, by omega, ⟨HLF.out, hll⟩, S6.out⟩
  case round =>
    clear S6 HLF
    obtain ⟨q, lf, v2, rfl, hq, HLF, HS⟩ := hrel
    by_cases hlq : q < ms.length
    · obtain ⟨adm, rfl, hcm⟩ := rd_get1 (Kn.rd_below HMs.out HS.out.below) q hlq
      obtain ⟨r0, r1⟩ := HMb.out _ (List.getElem_mem hlq)
      obtain ⟨s, hsx⟩ : ∃ s, ms[q] % 41 = s := ⟨_, rfl⟩
      have hq1 : ms[q].tmod 41 = s := by rw [Int.tmod_eq_emod_of_nonneg r0]; exact hsx
      have s0 : 0 ≤ s := by omega
      have s1 : s < 41 := by omega
      obtain ⟨A34, c34, rfl, _⟩ := rd_slice HS.out.row_rd
      obtain ⟨A2, c2, rfl, _⟩ := rd_slice (HS.out.front 2 _ rfl).row_rd
      have hll := HLF.out.2
      clear hsx
      have HLQ := hid hlq
      obtain ⟨wo, rfl⟩ : ∃ wo : World, wo = wr := ⟨_, rfl⟩
      have HO := HS
      clear HS
      go_wp2
      go_loopw [42, 43, 287] (fun v42 _ i wr' => ∃ (p : Nat) (a : Int), i = .int .i64 p ∧ v42 = .int .i64 a ∧ p ≤ lf.length ∧ Hid (LastAt s lf p a) ∧ Hid (wr' = wo)) (fun _ _ i _ => lf.length - (intOf i).toNat)
      case atStart => exact ⟨0, -1, rfl, rfl, by omega, LastAt.start s lf, hid rfl⟩
      case round =>
        obtain ⟨p, a, rfl, rfl, hp, HA, HW⟩ := hrel
        have hw := HW.out
        subst hw
        clear HW
        by_cases hlp : p < lf.length
        · obtain ⟨ad34, rfl, hc34⟩ := rd_get1 HO.out.row_rd p hlp
          have HLP := hid hlp
          by_cases he : lf[p] = s
          · have heb : (lf[p] == s) = true := by simpa using he
            have HN := hid (LastAt.hit hlp he)
            clear he
            go_wp2
            go_roundw
            case rel => exact ⟨p + 1, p, by go_num, rfl, by have := HLP.out; omega, HN.out, (by first | exact hid rfl | exact hid trivial)⟩
            case measure => have := HLP.out; simp [intOf]; omega
          · have heb : (lf[p] == s) = false := by simpa using he
            have HN := hid (LastAt.miss hlp he HA.out)
            clear he
            go_wp2
            go_roundw
            case rel => exact ⟨p + 1, a, by go_num, rfl, by have := HLP.out; omega, HN.out, (by first | exact hid rfl | exact hid trivial)⟩
            case measure => have := HLP.out; simp [intOf]; omega
        · obtain rfl : p = lf.length := by omega
          have HMR : Hid (MRight ⟨frm, tt, lf⟩) := ⟨f0, by show frm < 256; omega, t0, by show tt < 256; omega, hne, HLF.out.2, HLF.out.1⟩
          have HK : Hid (kMoving.rd wr ⟨frm, tt, lf⟩ [.int .i64 frm, .int .i64 tt, .slice A2 lf.length c2]) := Kn.rd_of (kMoving_mk (m := ⟨frm, tt, lf⟩) (row_rep (HO.out.front 2 _ rfl).head))
          have e0 := HO.out.at 1 rfl 0 _ rfl
          have e1 := HO.out.at 1 rfl 1 _ rfl
          have e2 := HO.out.at 1 rfl 2 _ rfl
          rcases HA.out.done HLF.out.1.nodup with ⟨rfl, hi⟩ | ⟨j, rfl, hj, hi⟩
          · have HI := hid hi
            clear hi HA
            go_wp2_with (first
              | (go_at_call 31; refine (mended_no ⟨frm, tt, lf⟩ _ s _ HK.out HMR.out HI.out).mono ?_; rintro e w3 ⟨rfl, hb3⟩; have S3 := hid (HO.out.go hb3); have S4 := hid (S3.out.box2 w3.heap.size rfl [.int .i64 frm, .int .i64 tt, .slice A2 lf.length c2] 55); have x0 := S4.out.at 0 rfl 0 _ rfl; have x1 := S4.out.at 0 rfl 1 _ rfl; have x2 := S4.out.at 0 rfl 2 _ rfl)
              | (go_at_call 22; refine (left_any ⟨frm, tt, lf⟩ _ _ _ (Kn.rd_of (kMoving_mk (m := ⟨frm, tt, lf⟩) (row_rep (S4.out.front 3 _ rfl).head))) (S4.out.front 1 _ rfl).row_rd HMR.out).mono ?_; rintro e w5 ⟨rfl, hb5⟩; have S5 := hid (S4.out.tail.go hb5)))
            go_roundw
            case rel => exact ⟨q + 1, lf, _, by go_num, by have := HLQ.out; omega, HLF.out, S5.out⟩
            case measure => have := HLQ.out; simp [intOf]; omega
          · have HI := hid hi
            have hj0 : decide ((j : Int) < 0) = false := by rw [decide_eq_false_iff_not]; omega
            have hjw : IntKind.i64.wrap ((j : Int) + 1) = (j : Int) + 1 := IntWalk.i64_in _ (by omega)
            have HJ := hid hj
            obtain ⟨g34, c34', hv, hcap, _⟩ := HO.out.row_form (by omega)
            simp only [Value.slice.injEq, true_and] at hv
            obtain ⟨rfl, rfl⟩ := hv
            have hjc : j ≤ c34 := by omega
            have hjc1 : j + 1 ≤ c34 := by omega
            have hjl : j + 1 ≤ lf.length := by omega
            have hjl0 : j ≤ lf.length := by omega
            have hz1 : (0 : Int) ≤ (j : Int) + 1 := by omega
            have hz3 : (j : Int) ≤ (j : Int) + 1 := by omega
            have hz2 : (j : Int) + 1 ≤ (lf.length : Int) := by omega
            clear hi HA
            go_wp2_with (first
              | (go_at_call 31; refine (mended_yes ⟨frm, tt, lf⟩ _ s _ HK.out HMR.out j HI.out HJ.out (by show lf.length ≤ _; omega)).mono ?_; rintro e w3 ⟨v3, rfl, h3⟩; obtain ⟨A3, c3, hv3, _⟩ := rd_slice h3.row_rd; subst hv3; have S4 := hid ((HO.out.frame h3).box2 w3.heap.size rfl [.int .i64 frm, .int .i64 tt, .slice A3 (lf.eraseIdx j).length c3] 55); have x0 := S4.out.at 0 rfl 0 _ rfl; have x1 := S4.out.at 0 rfl 1 _ rfl; have x2 := S4.out.at 0 rfl 2 _ rfl; clear h3))
            have S5 := hid (S4.out.drew.numsn (w3.heap.size + 1) (by simp) 3 .i64 [] (by simp))
            have HY1 := hid (rd_take (S5.out.front 3 _ rfl).row_rd j (Nat.le_of_lt HJ.out))
            have HL1 : Hid ((([] : List Int).length + (lf.take j).length) * 8 ≤ 140737488355328) := by show _ ≤ _; rw [List.length_take]; simp; omega
            have HL2 : Hid (((lf.take j).length + (lf.drop (j + 1)).length) * 8 ≤ 140737488355328) := by show _ ≤ _; rw [List.length_take, List.length_drop]; omega
            have HLT : Hid ((lf.take j).length = j) := by show _ = _; rw [List.length_take, Nat.min_eq_left hjl0]
            have HER : Hid (lf.take j ++ lf.drop (j + 1) = lf.eraseIdx j) := (List.eraseIdx_eq_take_drop_succ lf j).symm
            have HMR2 : Hid (MRight ⟨frm, tt, lf.eraseIdx j⟩) := ⟨f0, by show frm < 256; omega, t0, by show tt < 256; omega, hne, by show (lf.eraseIdx j).length ≤ 1000; rw [List.length_eraseIdx]; split <;> omega, HLF.out.1.sub (List.eraseIdx_sublist ..)⟩
            have FIN : Hid (∀ w' (v9 : Value), Star (Ck.row 3 (.int .i64) v9 (lf.eraseIdx j) :: Ck.blk w3.heap.size [.int .i64 frm, .int .i64 tt, .slice A3 (lf.eraseIdx j).length c3] 55 :: Ck.row 3 (.int .i64) (.slice A3 (lf.eraseIdx j).length c3) (lf.eraseIdx j) :: Ck.row 3 (.int .i64) (.slice (some ⟨g34, 0, none⟩) lf.length c34) lf :: Ck.blk b30 [.int .i64 frm, .int .i64 tt, .slice A2 lf.length c2] 55 :: Ck.row 3 (.int .i64) (.slice A2 lf.length c2) lf :: R) w0 w0.heap.size w' →
                Star (Ck.row 3 (.int .i64) v9 (lf.eraseIdx j) :: Ck.blk b30 [.int .i64 frm, .int .i64 tt, .slice A3 (lf.eraseIdx j).length c3] 55 :: Ck.row 3 (.int .i64) (.slice A3 (lf.eraseIdx j).length c3) (lf.eraseIdx j) :: R) w0 w0.heap.size (((w'.setCell ⟨b30, 0, none⟩ (.int .i64 frm)).setCell ⟨b30, 1, none⟩ (.int .i64 tt)).setCell ⟨b30, 2, none⟩ (.slice A3 (lf.eraseIdx j).length c3))) := fun w' v9 h => by
              exact ((((h.front 4 _ rfl).set_blk 0 (.int .i64 frm)).set_blk 1 (.int .i64 tt)).set_blk 2 (.slice A3 (lf.eraseIdx j).length c3)).perm [1, 0, 3] 6 (by decide) (by decide) (by simp)
            by_cases hcj : c34 = j + 1
            · subst hcj
              have HDR : Hid (lf.drop (j + 1) = []) := List.drop_eq_nil_of_le (by omega)
              go_region_law (first
                | (refine appS_step rfl _ _ 25 _ 8 rfl Try.underlying25 info3 rfl (by decide) S5.out rfl rfl HY1.out HL1.out ?_; intro v7 w7 h7 _ _; rw [List.nil_append] at h7; obtain ⟨A7, c7, hv7, _⟩ := rd_slice h7.row_rd; rw [HLT.out] at hv7; subst hv7; have S7 := hid h7; clear h7)
                | (refine appS_step rfl _ _ 25 _ 8 rfl Try.underlying25 info3 rfl (by decide) S7.out rfl rfl (by rw [HDR.out]; exact rd_none (by omega)) HL2.out ?_; intro v9 w9 h9 _ _; rw [HER.out] at h9; obtain ⟨A9, c9, hv9, _⟩ := rd_slice h9.row_rd; subst hv9; have S9 := hid h9; clear h9; have x0 := S9.out.at 1 rfl 0 _ rfl; have x1 := S9.out.at 1 rfl 1 _ rfl; have x2 := S9.out.at 1 rfl 2 _ rfl))
              all_goals
                go_wp2_with (go_at_call 22; refine (left_any ⟨frm, tt, lf.eraseIdx j⟩ _ _ _ (Kn.rd_of (kMoving_mk (m := ⟨frm, tt, lf.eraseIdx j⟩) (row_rep (S9.out.front 2 _ rfl).head))) S9.out.row_rd HMR2.out).mono ?_; rintro e w10 ⟨rfl, hb10⟩; have S10 := hid (S9.out.go hb10); have y0 := S10.out.at 1 rfl 0 _ rfl; have y1 := S10.out.at 1 rfl 1 _ rfl; have y2 := S10.out.at 1 rfl 2 _ rfl; have z0 := S10.out.at 4 rfl 0 _ rfl; have z1 := S10.out.at 4 rfl 1 _ rfl; have z2 := S10.out.at 4 rfl 2 _ rfl)
                go_roundw
                case rel => exact ⟨q + 1, lf.eraseIdx j, _, by go_num, by have := HLQ.out; omega, ⟨HMR2.out.rise, HMR2.out.len⟩, FIN.out _ _ S10.out⟩
                case measure => have := HLQ.out; simp [intOf]; omega
            · go_region_law (first
                | (refine appS_step rfl _ _ 25 _ 8 rfl Try.underlying25 info3 rfl (by decide) S5.out rfl rfl HY1.out HL1.out ?_; intro v7 w7 h7 _ _; rw [List.nil_append] at h7; obtain ⟨A7, c7, hv7, _⟩ := rd_slice h7.row_rd; rw [HLT.out] at hv7; subst hv7; have S7 := hid h7; clear h7)
                | (refine appS_step rfl _ _ 25 _ 8 rfl Try.underlying25 info3 rfl (by decide) S7.out rfl rfl (rd_drop (S7.out.front 3 _ rfl).row_rd rfl (j + 1) HJ.out) HL2.out ?_; intro v9 w9 h9 _ _; rw [HER.out] at h9; obtain ⟨A9, c9, hv9, _⟩ := rd_slice h9.row_rd; subst hv9; have S9 := hid h9; clear h9; have x0 := S9.out.at 1 rfl 0 _ rfl; have x1 := S9.out.at 1 rfl 1 _ rfl; have x2 := S9.out.at 1 rfl 2 _ rfl))
              all_goals
                go_wp2_with (go_at_call 22; refine (left_any ⟨frm, tt, lf.eraseIdx j⟩ _ _ _ (Kn.rd_of (kMoving_mk (m := ⟨frm, tt, lf.eraseIdx j⟩) (row_rep (S9.out.front 2 _ rfl).head))) S9.out.row_rd HMR2.out).mono ?_; rintro e w10 ⟨rfl, hb10⟩; have S10 := hid (S9.out.go hb10); have y0 := S10.out.at 1 rfl 0 _ rfl; have y1 := S10.out.at 1 rfl 1 _ rfl; have y2 := S10.out.at 1 rfl 2 _ rfl; have z0 := S10.out.at 4 rfl 0 _ rfl; have z1 := S10.out.at 4 rfl 1 _ rfl; have z2 := S10.out.at 4 rfl 2 _ rfl)
                go_roundw
                case rel => exact ⟨q + 1, lf.eraseIdx j, _, by go_num, by have := HLQ.out; omega, ⟨HMR2.out.rise, HMR2.out.len⟩, FIN.out _ _ S10.out⟩
                case measure => have := HLQ.out; simp [intOf]; omega
    · obtain rfl : q = ms.length := by omega
      have HF := hid HS.out.tail.tail.tail
      go_wp2
      exact HRR.out _ _ _ _ _ _ _ _ _ _ _ _ _ _ _ _ _ _ _ _ _ _ _ _ _ _ _ _ _ _ _ _ _ _ _ _ _ _ _ _ _ _ _ _ _ _ _ _ _ _ _ _ _ _ _ _ _ _ _ _ _ _ _ _ _ _ _ _ _ _ HF
end Go.Proofs.Ytihfikepfhcboaa
