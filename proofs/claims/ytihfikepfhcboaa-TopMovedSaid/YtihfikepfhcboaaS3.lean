/-
  Walks: moved17: the stripes that a wish leaves.
-/
import Derived.Test.YtihfikepfhcboaaP7
import Derived.Test.YtihfikepfhcboaaR2
namespace Go.Proofs.Ytihfikepfhcboaa
open Go.RowKit Go.Maps

set_option maxHeartbeats 8000000 in
set_option maxRecDepth 100000 in
theorem blk10 {u0 u1 u2 u3 u4 u5 u6 u7 u8 u9 u10 u11 u12 u13 u15 u16 u17 u18 u19 u20 u21 u22 u24 u25 u26 u27 u28 u29 u30 u31 u32 u33 u35 u36 u37 u38 u39 u40 u41 u42 u43 u44 u45 u46 u47 u48 u49 u50 u51 u52 u53 u54 u55 u56 u57 u58 u59 u60 u61 u62 u63 u64 u65 u66 u67 u68 u69 u70 u71 u72 u73 u74 u75 u76 u77 u78 u79 u80 u81 u82 u83 u84 u85 u86 u87 u88 u89 u90 u91 u92 u93 u94 u95 u96 u97 u98 u99 u100 u101 u102 u103 u104 u105 u106 u107 u108 u109 u110 u111 u112 u113 u114 u115 u116 u117 u118 u119 u120 u121 u122 u123 u124 u125 u126 u127 u128 u129 u130 u131 u132 u133 u134 u135 u136 u137 u138 u139 u140 u141 u142 u143 u144 u145 u146 u147 u148 u149 u150 u151 u152 u153 u154 u155 u156 u157 u158 u159 u160 u161 u162 u163 u164 u165 u166 u167 u168 u169 u170 u171 u172 u173 u174 u175 u176 u177 u178 u179 u180 u181 u182 u183 u184 u185 u186 u187 u188 u189 u190 u191 u192 u193 u194 u195 u196 u197 u198 u199 u200 u201 u202 u203 u204 u205 u206 u207 u208 u209 u210 u214 u215 u216 u217 u218 u219 u220 u221 u222 u223 u224 u225 u226 u227 u228 u229 u230 u231 u232 u233 u234 u235 u236 u237 u238 u239 u240 u241 u242 u243 u244 u245 u246 u247 u248 u249 u250 u251 u252 u253 u254 u255 u256 u257 u258 u259 u260 u261 u262 u263 u264 u265 u266 u267 u268 u269 u270 u271 u272 u273 u274 u275 u276 u277 u278 u279 u280 u281 u282 u283 u284 u285 u286 u287 u288 u289 u290 u291 u292 u293 u294 u295 u296 u297 u298 u299 u300 u301 u302 u303 u304 u305 u306 u307 u308 u309 u310 u311 u312 u313 u314 u315 u316 u317 u318 u319 u320 u321 u322 u323 u324 u325 u326 u327 u328 u329 u330 u331 u332 u333 u334 u335 u336 u337 u338 u339 : Value} {RR : Act → World → Prop} (l : List Place) (sl : List Int) (frm : Int) (bX : Nat) (As A23 AN : Option Addr) (cs c23 cN : Nat) (vE : Value) (k0 k1 k2 k3 k4 k6 : Ck) (R : List Ck) (w0 w : World)
    (h1 : 1 ≤ l.length) (hl : l.length ≤ 1000) (hsl : sl.length ≤ 1000) (hsr : Rise sl) (hs : kInts.rd w0 sl [.slice As sl.length cs])
    (S : Star (k0 :: k1 :: k2 :: k3 :: k4 :: Ck.row 3 (.int .i64) (.slice A23 (grs frm l).length c23) (grs frm l) :: k6 :: Ck.blk bX [.slice AN l.length cN, vE] 64 :: R) w0 w0.heap.size w)
    (hRR : ∀ (z34 z36 z38 z213 z214 z215 z216 z217 z218 z219 z220 z221 z222 z223 z224 z225 z226 z227 z228 z229 z230 z231 z232 z233 z234 z235 z236 z237 : Value) (w' : World), Hid (Star (Ck.row 3 (.int .i64) z34 (lefts l frm sl) :: k0 :: k1 :: k2 :: k3 :: k4 :: Ck.row 3 (.int .i64) (.slice A23 (grs frm l).length c23) (grs frm l) :: k6 :: Ck.blk bX [.slice AN l.length cN, vE] 64 :: R) w0 w0.heap.size w') → RR ⟨(u0 :: u1 :: u2 :: u3 :: u4 :: u5 :: u6 :: u7 :: u8 :: u9 :: u10 :: u11 :: u12 :: u13 :: .pointer (some ⟨bX, 0, none⟩) :: u15 :: u16 :: u17 :: u18 :: u19 :: u20 :: u21 :: u22 :: .slice A23 (grs frm l).length c23 :: u24 :: u25 :: u26 :: u27 :: u28 :: u29 :: u30 :: u31 :: u32 :: u33 :: z34 :: u35 :: z36 :: u37 :: z38 :: u39 :: u40 :: u41 :: u42 :: u43 :: u44 :: u45 :: u46 :: u47 :: u48 :: u49 :: u50 :: u51 :: u52 :: u53 :: u54 :: u55 :: u56 :: u57 :: u58 :: u59 :: u60 :: u61 :: u62 :: u63 :: u64 :: u65 :: u66 :: u67 :: u68 :: u69 :: u70 :: u71 :: u72 :: u73 :: u74 :: u75 :: u76 :: u77 :: u78 :: u79 :: u80 :: u81 :: u82 :: u83 :: u84 :: u85 :: u86 :: u87 :: u88 :: u89 :: u90 :: u91 :: u92 :: u93 :: u94 :: u95 :: u96 :: u97 :: u98 :: u99 :: u100 :: u101 :: u102 :: u103 :: u104 :: u105 :: u106 :: u107 :: u108 :: u109 :: u110 :: u111 :: u112 :: u113 :: u114 :: u115 :: u116 :: u117 :: u118 :: u119 :: u120 :: u121 :: u122 :: u123 :: u124 :: u125 :: u126 :: u127 :: u128 :: u129 :: u130 :: u131 :: u132 :: u133 :: u134 :: u135 :: u136 :: u137 :: u138 :: u139 :: u140 :: u141 :: u142 :: u143 :: u144 :: u145 :: u146 :: u147 :: u148 :: u149 :: u150 :: u151 :: u152 :: u153 :: u154 :: u155 :: u156 :: u157 :: u158 :: u159 :: u160 :: u161 :: u162 :: u163 :: u164 :: u165 :: u166 :: u167 :: u168 :: u169 :: u170 :: u171 :: u172 :: u173 :: u174 :: u175 :: u176 :: u177 :: u178 :: u179 :: u180 :: u181 :: u182 :: u183 :: u184 :: u185 :: u186 :: u187 :: u188 :: u189 :: u190 :: u191 :: u192 :: u193 :: u194 :: u195 :: u196 :: u197 :: u198 :: u199 :: u200 :: u201 :: u202 :: u203 :: u204 :: u205 :: u206 :: u207 :: u208 :: u209 :: u210 :: .slice As sl.length cs :: .int .i64 (sl.length : Nat) :: z213 :: z214 :: z215 :: z216 :: z217 :: z218 :: z219 :: z220 :: z221 :: z222 :: z223 :: z224 :: z225 :: z226 :: z227 :: z228 :: z229 :: z230 :: z231 :: z232 :: z233 :: z234 :: z235 :: z236 :: z237 :: u238 :: u239 :: u240 :: u241 :: u242 :: u243 :: u244 :: u245 :: u246 :: u247 :: u248 :: u249 :: u250 :: u251 :: u252 :: u253 :: u254 :: u255 :: u256 :: u257 :: u258 :: u259 :: u260 :: u261 :: u262 :: u263 :: u264 :: u265 :: u266 :: u267 :: u268 :: u269 :: u270 :: u271 :: u272 :: u273 :: u274 :: u275 :: u276 :: u277 :: u278 :: u279 :: u280 :: u281 :: u282 :: u283 :: u284 :: u285 :: u286 :: u287 :: u288 :: u289 :: u290 :: u291 :: u292 :: u293 :: u294 :: u295 :: u296 :: u297 :: u298 :: u299 :: u300 :: u301 :: u302 :: u303 :: u304 :: u305 :: u306 :: u307 :: u308 :: u309 :: u310 :: u311 :: u312 :: u313 :: u314 :: u315 :: u316 :: u317 :: u318 :: u319 :: u320 :: u321 :: u322 :: u323 :: u324 :: u325 :: u326 :: u327 :: u328 :: u329 :: u330 :: u331 :: u332 :: u333 :: u334 :: u335 :: u336 :: u337 :: u338 :: u339 :: []).toArray, []⟩ w') :
    (blkOf 10 (bodyOf Try.f9)).wp Try.prog (Ends RR)
      ⟨(u0 :: u1 :: u2 :: u3 :: u4 :: u5 :: u6 :: u7 :: u8 :: u9 :: u10 :: u11 :: u12 :: u13 :: .pointer (some ⟨bX, 0, none⟩) :: u15 :: u16 :: u17 :: u18 :: u19 :: u20 :: u21 :: u22 :: .slice A23 (grs frm l).length c23 :: u24 :: u25 :: u26 :: u27 :: u28 :: u29 :: u30 :: u31 :: u32 :: u33 :: .slice none 0 0 :: u35 :: u36 :: u37 :: u38 :: u39 :: u40 :: u41 :: u42 :: u43 :: u44 :: u45 :: u46 :: u47 :: u48 :: u49 :: u50 :: u51 :: u52 :: u53 :: u54 :: u55 :: u56 :: u57 :: u58 :: u59 :: u60 :: u61 :: u62 :: u63 :: u64 :: u65 :: u66 :: u67 :: u68 :: u69 :: u70 :: u71 :: u72 :: u73 :: u74 :: u75 :: u76 :: u77 :: u78 :: u79 :: u80 :: u81 :: u82 :: u83 :: u84 :: u85 :: u86 :: u87 :: u88 :: u89 :: u90 :: u91 :: u92 :: u93 :: u94 :: u95 :: u96 :: u97 :: u98 :: u99 :: u100 :: u101 :: u102 :: u103 :: u104 :: u105 :: u106 :: u107 :: u108 :: u109 :: u110 :: u111 :: u112 :: u113 :: u114 :: u115 :: u116 :: u117 :: u118 :: u119 :: u120 :: u121 :: u122 :: u123 :: u124 :: u125 :: u126 :: u127 :: u128 :: u129 :: u130 :: u131 :: u132 :: u133 :: u134 :: u135 :: u136 :: u137 :: u138 :: u139 :: u140 :: u141 :: u142 :: u143 :: u144 :: u145 :: u146 :: u147 :: u148 :: u149 :: u150 :: u151 :: u152 :: u153 :: u154 :: u155 :: u156 :: u157 :: u158 :: u159 :: u160 :: u161 :: u162 :: u163 :: u164 :: u165 :: u166 :: u167 :: u168 :: u169 :: u170 :: u171 :: u172 :: u173 :: u174 :: u175 :: u176 :: u177 :: u178 :: u179 :: u180 :: u181 :: u182 :: u183 :: u184 :: u185 :: u186 :: u187 :: u188 :: u189 :: u190 :: u191 :: u192 :: u193 :: u194 :: u195 :: u196 :: u197 :: u198 :: u199 :: u200 :: u201 :: u202 :: u203 :: u204 :: u205 :: u206 :: u207 :: u208 :: u209 :: u210 :: .slice As sl.length cs :: .int .i64 (sl.length : Nat) :: .int .i64 0 :: u214 :: u215 :: u216 :: u217 :: u218 :: u219 :: u220 :: u221 :: u222 :: u223 :: u224 :: u225 :: u226 :: u227 :: u228 :: u229 :: u230 :: u231 :: u232 :: u233 :: u234 :: u235 :: u236 :: u237 :: u238 :: u239 :: u240 :: u241 :: u242 :: u243 :: u244 :: u245 :: u246 :: u247 :: u248 :: u249 :: u250 :: u251 :: u252 :: u253 :: u254 :: u255 :: u256 :: u257 :: u258 :: u259 :: u260 :: u261 :: u262 :: u263 :: u264 :: u265 :: u266 :: u267 :: u268 :: u269 :: u270 :: u271 :: u272 :: u273 :: u274 :: u275 :: u276 :: u277 :: u278 :: u279 :: u280 :: u281 :: u282 :: u283 :: u284 :: u285 :: u286 :: u287 :: u288 :: u289 :: u290 :: u291 :: u292 :: u293 :: u294 :: u295 :: u296 :: u297 :: u298 :: u299 :: u300 :: u301 :: u302 :: u303 :: u304 :: u305 :: u306 :: u307 :: u308 :: u309 :: u310 :: u311 :: u312 :: u313 :: u314 :: u315 :: u316 :: u317 :: u318 :: u319 :: u320 :: u321 :: u322 :: u323 :: u324 :: u325 :: u326 :: u327 :: u328 :: u329 :: u330 :: u331 :: u332 :: u333 :: u334 :: u335 :: u336 :: u337 :: u338 :: u339 :: []).toArray, []⟩ w := by
  conv => arg 2; whnf
  have HRR := hid hRR
  clear hRR
  have S6 := hid (S.nilrow 3 (.int .i64))
  have HSl := hid hs
  have HSR := hid hsr
  have hgl := grs_len frm l
  have hl0 : ((l.length : Int) == 0) = false := by rw [beq_eq_false_iff_ne]; omega
  clear S hs hsr
  go_wp2
  go_loopw [34, 36, 213] (fun v34 _ i wr' => ∃ m : Nat, i = .int .i64 m ∧ m ≤ sl.length ∧
    Hid (Star (Ck.row 3 (.int .i64) v34 (lefts l frm (sl.take m)) :: k0 :: k1 :: k2 :: k3 :: k4 :: Ck.row 3 (.int .i64) (.slice A23 (grs frm l).length c23) (grs frm l) :: k6 :: Ck.blk bX [.slice AN l.length cN, vE] 64 :: R) w0 w0.heap.size wr')) (fun _ _ i _ => sl.length - (intOf i).toNat)
  case atStart => exact ⟨0, rfl, by omega, S6.out⟩
  case round =>
    clear S6
    obtain ⟨m, rfl, hm, HS⟩ := hrel
    by_cases hlm : m < sl.length
    · obtain ⟨ads, rfl, hcs⟩ := rd_get1 (Kn.rd_below HSl.out HS.out.below) m hlm
      have hs0 := HSR.out.lo _ (List.getElem_mem hlm)
      have hq : sl[m].tmod (l.length : Int) = sl[m] % (l.length : Int) := Int.tmod_eq_emod_of_nonneg hs0
      have HLN : Hid (lefts l frm (sl.take (m + 1)) = lefts l frm (sl.take m) ++ leftk (grs frm l) l.length sl[m]) := by show _ = _; rw [take_snoc hlm, lefts_snoc]; rfl
      obtain ⟨s, hsx⟩ : ∃ s, sl[m] = s := ⟨_, rfl⟩
      rw [hsx] at hcs hs0 hq HLN
      have hlen := lefts_len l frm (sl.take m)
      rw [List.length_take] at hlen
      have HLM := hid hlm
      have hlb : (lefts l frm (sl.take m)).length ≤ 1000 := by omega
      clear hsx hlen
      obtain ⟨wo, rfl⟩ : ∃ wo : World, wo = wr := ⟨_, rfl⟩
      go_wp2
      go_loopw [34, 38, 219] (fun v34 _ i wr' => ∃ p : Nat, i = .int .i64 p ∧ p ≤ (grs frm l).length ∧
        Hid (Star (Ck.row 3 (.int .i64) v34 (lefts l frm (sl.take m) ++ leftk ((grs frm l).take p) l.length s) :: k0 :: k1 :: k2 :: k3 :: k4 :: Ck.row 3 (.int .i64) (.slice A23 (grs frm l).length c23) (grs frm l) :: k6 :: Ck.blk bX [.slice AN l.length cN, vE] 64 :: R) w0 w0.heap.size wr')) (fun _ _ i _ => (grs frm l).length - (intOf i).toNat)
      case atStart => exact ⟨0, rfl, by omega, by show Star _ _ _ _; simpa [leftk] using HS.out⟩
      case round =>
        clear HS
        obtain ⟨p, rfl, hp, HS⟩ := hrel
        by_cases hlp : p < (grs frm l).length
        · obtain ⟨adg, rfl, hcg⟩ := rd_get1 (HS.out.front 6 _ rfl).row_rd p hlp
          have eN := (HS.out.at 8 rfl 0 _ rfl).1
          have HLP := hid hlp
          by_cases he : s % (l.length : Int) = (grs frm l)[p]
          · have heb : (s % (l.length : Int) == (grs frm l)[p]) = true := by simpa using he
            obtain ⟨g1, g2⟩ := leftk_hit (grs_nodup frm l) hlp he
            rw [g1, List.append_nil] at HS
            have HG2 := hid g2
            have HP := hid (HS.out.inn1 .i64 s)
            have HL : Hid (((lefts l frm (sl.take m)).length + 1) * 8 ≤ 140737488355328) := by show _ ≤ _; omega
            clear g1 g2 he
            go_wp2_with (at_builtin; refine app1 rfl _ _ 25 _ 8 rfl Try.underlying25 info3 rfl (by decide) (by decide) HP.out rfl rfl HL.out ?_; intro v' w' h6 _; have HN := hid h6; clear h6)
            go_roundw
            case rel => exact ⟨p + 1, by go_num, by have := HLP.out; omega, by rw [HG2.out]; exact HN.out⟩
            case measure => have := HLP.out; simp [intOf]; omega
          · have heb : (s % (l.length : Int) == (grs frm l)[p]) = false := by simpa using he
            have HG2 := hid (leftk_miss hlp he)
            clear he
            go_wp2
            go_roundw
            case rel => exact ⟨p + 1, by go_num, by have := HLP.out; omega, by rw [HG2.out]; exact HS.out⟩
            case measure => have := HLP.out; simp [intOf]; omega
        · obtain rfl : p = (grs frm l).length := by omega
          rw [List.take_length, ← HLN.out] at HS
          go_wp2
          go_roundw
          case rel => exact ⟨m + 1, by go_num, by have := HLM.out; omega, HS.out⟩
          case measure => have := HLM.out; simp [intOf]; omega
    · obtain rfl : m = sl.length := by omega
      rw [List.take_length] at HS
      go_wp2
      exact HRR.out _ _ _ _ _ _ _ _ _ _ _ _ _ _ _ _ _ _ _ _ _ _ _ _ _ _ _ _ _ HS
end Go.Proofs.Ytihfikepfhcboaa
