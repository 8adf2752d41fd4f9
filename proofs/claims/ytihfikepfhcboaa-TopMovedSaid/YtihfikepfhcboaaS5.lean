/-
  Walks: moved17: one wish.
-/
import Derived.Test.YtihfikepfhcboaaS1
import Derived.Test.YtihfikepfhcboaaS2
import Derived.Test.YtihfikepfhcboaaS3
import Derived.Test.YtihfikepfhcboaaS4
namespace Go.Proofs.Ytihfikepfhcboaa
open Go.RowKit Go.Maps

theorem wp_endsN {P : Program} {c : Code} {Q : Exit → Act → World → Prop} {a : Act} {w : World} (h : c.wp P (Ends (Q .normal)) a w) : c.wp P Q a w :=
  wp_mono h fun e a w h => by obtain ⟨rfl, h⟩ := h.out; exact h

set_option maxHeartbeats 8000000 in
set_option maxRecDepth 100000 in
theorem blk5 {u0 u1 u2 u4 u5 u6 u7 u8 u9 u10 u11 u13 u15 u16 u17 u19 u20 u21 u22 u23 u24 u25 u26 u27 u28 u29 u30 u31 u32 u33 u34 u35 u36 u37 u38 u39 u40 u41 u42 u43 u44 u45 u46 u47 u48 u49 u50 u51 u52 u53 u54 u55 u56 u57 u58 u59 u60 u61 u62 u63 u64 u65 u66 u67 u68 u69 u70 u71 u72 u73 u74 u75 u76 u77 u78 u79 u80 u81 u82 u83 u84 u85 u86 u87 u88 u89 u90 u91 u92 u93 u94 u95 u96 u97 u98 u99 u100 u101 u102 u103 u104 u106 u108 u109 u110 u111 u112 u113 u114 u115 u116 u117 u118 u119 u120 u121 u122 u123 u124 u125 u126 u127 u128 u129 u130 u131 u132 u133 u134 u135 u136 u137 u138 u139 u140 u141 u142 u143 u144 u145 u146 u147 u148 u149 u150 u151 u152 u153 u154 u155 u156 u157 u158 u159 u160 u161 u162 u163 u164 u165 u166 u167 u168 u169 u170 u171 u172 u173 u174 u175 u176 u177 u178 u179 u180 u181 u182 u183 u184 u185 u186 u187 u188 u189 u190 u191 u192 u193 u194 u195 u196 u197 u198 u199 u200 u201 u202 u203 u204 u205 u206 u207 u208 u209 u210 u211 u212 u213 u214 u215 u216 u217 u218 u219 u220 u221 u222 u223 u224 u225 u226 u227 u228 u229 u230 u231 u232 u233 u234 u235 u236 u237 u238 u239 u240 u241 u242 u243 u244 u245 u246 u247 u248 u249 u250 u251 u252 u253 u254 u255 u256 u257 u258 u259 u260 u261 u262 u263 u264 u265 u266 u267 u268 u269 u270 u271 u272 u273 u274 u275 u276 u277 u278 u279 u280 u281 u282 u283 u284 u285 u286 u287 u288 u289 u290 u291 u292 u293 u294 u295 u296 u297 u298 u299 u300 u301 u302 u303 u304 u305 u306 u307 u308 u309 u310 u311 u312 u313 u314 u315 u316 u317 u318 u319 u320 u321 u322 u323 u324 u325 u326 u327 u328 u329 u330 u331 u332 u333 u334 u335 u336 u337 u338 u339 : Value} {RR : Act → World → Prop} (l l' : List Place) (sl : List Int) (ys : List Shf) (j k : Nat) (c c' : Int) (bX cs ch : Nat) (As Ah : Option Addr) (v12 : Value) (w0 w : World)
    (hj : j < ys.length) (hj20 : j ≤ 20) (hF : Fit k j l) (h1 : 1 ≤ k) (h7 : k ≤ 7) (hR : Rise sl) (hsl : sl.length ≤ 100) (hc0 : 0 ≤ c) (hc1 : c ≤ 100000)
    (hs : kInts.rd w0 sl [.slice As sl.length cs]) (hh : (Kn.slice kShf).rd w0 ys [.slice Ah ys.length ch])
    (hby : 0 ≤ ys[j].src ∧ ys[j].src < 256 ∧ 0 ≤ ys[j].dst ∧ ys[j].dst < 256 ∧ ∀ x ∈ ys[j].mended, 0 ≤ x ∧ x < 256)
    (ht : turn1 sl (l, c) ys[j] = (l', c')) (hM : Mem bX v12 l w0 w0.heap.size w)
    (hRR : ∀ (z10 z11 z12 z20 z21 z22 z23 z24 z25 z26 z27 z28 z29 z30 z31 z33 z34 z36 z38 z40 z41 z42 z43 z44 z45 z109 z110 z111 z112 z113 z114 z115 z116 z117 z118 z119 z120 z121 z122 z123 z124 z125 z126 z127 z128 z129 z130 z131 z132 z133 z134 z135 z136 z137 z138 z139 z140 z141 z142 z143 z144 z145 z146 z147 z148 z149 z150 z151 z152 z153 z154 z155 z156 z157 z158 z159 z160 z161 z162 z163 z164 z165 z166 z167 z168 z169 z170 z171 z172 z173 z174 z175 z176 z177 z178 z179 z180 z181 z182 z183 z184 z185 z186 z187 z188 z189 z190 z191 z192 z193 z194 z195 z196 z197 z198 z199 z200 z201 z202 z203 z204 z205 z206 z207 z208 z209 z210 z211 z212 z213 z214 z215 z216 z217 z218 z219 z220 z221 z222 z223 z224 z225 z226 z227 z228 z229 z230 z231 z232 z233 z234 z235 z236 z237 z238 z239 z240 z241 z242 z243 z244 z245 z246 z247 z248 z249 z250 z251 z252 z253 z254 z255 z256 z257 z258 z259 z260 z261 z262 z263 z264 z265 z266 z267 z268 z269 z270 z271 z272 z273 z274 z275 z276 z277 z278 z279 z280 z281 z282 z283 z284 z285 z286 z287 z288 z289 z290 z291 z292 z293 z294 z295 z296 z297 z298 z299 z300 z301 z302 z303 z304 z305 z306 z307 z308 z309 z310 z311 z312 z313 z314 z315 z316 z317 z318 z319 z320 z321 z322 z323 z324 z325 z326 z327 z328 z329 z330 z331 z332 z333 z334 z335 z336 z337 : Value) (w' : World), Hid (Mem bX z12 l' w0 w0.heap.size w') → RR ⟨(u0 :: u1 :: u2 :: .slice As sl.length cs :: u4 :: u5 :: u6 :: u7 :: u8 :: u9 :: z10 :: z11 :: z12 :: u13 :: .pointer (some ⟨bX, 0, none⟩) :: u15 :: u16 :: u17 :: .int .i64 c' :: u19 :: z20 :: z21 :: z22 :: z23 :: z24 :: z25 :: z26 :: z27 :: z28 :: z29 :: z30 :: z31 :: u32 :: z33 :: z34 :: u35 :: z36 :: u37 :: z38 :: u39 :: z40 :: z41 :: z42 :: z43 :: z44 :: z45 :: u46 :: u47 :: u48 :: u49 :: u50 :: u51 :: u52 :: u53 :: u54 :: u55 :: u56 :: u57 :: u58 :: u59 :: u60 :: u61 :: u62 :: u63 :: u64 :: u65 :: u66 :: u67 :: u68 :: u69 :: u70 :: u71 :: u72 :: u73 :: u74 :: u75 :: u76 :: u77 :: u78 :: u79 :: u80 :: u81 :: u82 :: u83 :: u84 :: u85 :: u86 :: u87 :: u88 :: u89 :: u90 :: u91 :: u92 :: u93 :: u94 :: u95 :: u96 :: u97 :: u98 :: u99 :: u100 :: u101 :: u102 :: u103 :: u104 :: .slice Ah ys.length ch :: u106 :: .int .i64 (j : Nat) :: u108 :: z109 :: z110 :: z111 :: z112 :: z113 :: z114 :: z115 :: z116 :: z117 :: z118 :: z119 :: z120 :: z121 :: z122 :: z123 :: z124 :: z125 :: z126 :: z127 :: z128 :: z129 :: z130 :: z131 :: z132 :: z133 :: z134 :: z135 :: z136 :: z137 :: z138 :: z139 :: z140 :: z141 :: z142 :: z143 :: z144 :: z145 :: z146 :: z147 :: z148 :: z149 :: z150 :: z151 :: z152 :: z153 :: z154 :: z155 :: z156 :: z157 :: z158 :: z159 :: z160 :: z161 :: z162 :: z163 :: z164 :: z165 :: z166 :: z167 :: z168 :: z169 :: z170 :: z171 :: z172 :: z173 :: z174 :: z175 :: z176 :: z177 :: z178 :: z179 :: z180 :: z181 :: z182 :: z183 :: z184 :: z185 :: z186 :: z187 :: z188 :: z189 :: z190 :: z191 :: z192 :: z193 :: z194 :: z195 :: z196 :: z197 :: z198 :: z199 :: z200 :: z201 :: z202 :: z203 :: z204 :: z205 :: z206 :: z207 :: z208 :: z209 :: z210 :: z211 :: z212 :: z213 :: z214 :: z215 :: z216 :: z217 :: z218 :: z219 :: z220 :: z221 :: z222 :: z223 :: z224 :: z225 :: z226 :: z227 :: z228 :: z229 :: z230 :: z231 :: z232 :: z233 :: z234 :: z235 :: z236 :: z237 :: z238 :: z239 :: z240 :: z241 :: z242 :: z243 :: z244 :: z245 :: z246 :: z247 :: z248 :: z249 :: z250 :: z251 :: z252 :: z253 :: z254 :: z255 :: z256 :: z257 :: z258 :: z259 :: z260 :: z261 :: z262 :: z263 :: z264 :: z265 :: z266 :: z267 :: z268 :: z269 :: z270 :: z271 :: z272 :: z273 :: z274 :: z275 :: z276 :: z277 :: z278 :: z279 :: z280 :: z281 :: z282 :: z283 :: z284 :: z285 :: z286 :: z287 :: z288 :: z289 :: z290 :: z291 :: z292 :: z293 :: z294 :: z295 :: z296 :: z297 :: z298 :: z299 :: z300 :: z301 :: z302 :: z303 :: z304 :: z305 :: z306 :: z307 :: z308 :: z309 :: z310 :: z311 :: z312 :: z313 :: z314 :: z315 :: z316 :: z317 :: z318 :: z319 :: z320 :: z321 :: z322 :: z323 :: z324 :: z325 :: z326 :: z327 :: z328 :: z329 :: z330 :: z331 :: z332 :: z333 :: z334 :: z335 :: z336 :: z337 :: u338 :: u339 :: []).toArray, []⟩ w') :
    (blkOf 5 (bodyOf Try.f9)).wp Try.prog (Ends RR)
      ⟨(u0 :: u1 :: u2 :: .slice As sl.length cs :: u4 :: u5 :: u6 :: u7 :: u8 :: u9 :: u10 :: u11 :: v12 :: u13 :: .pointer (some ⟨bX, 0, none⟩) :: u15 :: u16 :: u17 :: .int .i64 c :: u19 :: u20 :: u21 :: u22 :: u23 :: u24 :: u25 :: u26 :: u27 :: u28 :: u29 :: u30 :: u31 :: u32 :: u33 :: u34 :: u35 :: u36 :: u37 :: u38 :: u39 :: u40 :: u41 :: u42 :: u43 :: u44 :: u45 :: u46 :: u47 :: u48 :: u49 :: u50 :: u51 :: u52 :: u53 :: u54 :: u55 :: u56 :: u57 :: u58 :: u59 :: u60 :: u61 :: u62 :: u63 :: u64 :: u65 :: u66 :: u67 :: u68 :: u69 :: u70 :: u71 :: u72 :: u73 :: u74 :: u75 :: u76 :: u77 :: u78 :: u79 :: u80 :: u81 :: u82 :: u83 :: u84 :: u85 :: u86 :: u87 :: u88 :: u89 :: u90 :: u91 :: u92 :: u93 :: u94 :: u95 :: u96 :: u97 :: u98 :: u99 :: u100 :: u101 :: u102 :: u103 :: u104 :: .slice Ah ys.length ch :: u106 :: .int .i64 (j : Nat) :: u108 :: u109 :: u110 :: u111 :: u112 :: u113 :: u114 :: u115 :: u116 :: u117 :: u118 :: u119 :: u120 :: u121 :: u122 :: u123 :: u124 :: u125 :: u126 :: u127 :: u128 :: u129 :: u130 :: u131 :: u132 :: u133 :: u134 :: u135 :: u136 :: u137 :: u138 :: u139 :: u140 :: u141 :: u142 :: u143 :: u144 :: u145 :: u146 :: u147 :: u148 :: u149 :: u150 :: u151 :: u152 :: u153 :: u154 :: u155 :: u156 :: u157 :: u158 :: u159 :: u160 :: u161 :: u162 :: u163 :: u164 :: u165 :: u166 :: u167 :: u168 :: u169 :: u170 :: u171 :: u172 :: u173 :: u174 :: u175 :: u176 :: u177 :: u178 :: u179 :: u180 :: u181 :: u182 :: u183 :: u184 :: u185 :: u186 :: u187 :: u188 :: u189 :: u190 :: u191 :: u192 :: u193 :: u194 :: u195 :: u196 :: u197 :: u198 :: u199 :: u200 :: u201 :: u202 :: u203 :: u204 :: u205 :: u206 :: u207 :: u208 :: u209 :: u210 :: u211 :: u212 :: u213 :: u214 :: u215 :: u216 :: u217 :: u218 :: u219 :: u220 :: u221 :: u222 :: u223 :: u224 :: u225 :: u226 :: u227 :: u228 :: u229 :: u230 :: u231 :: u232 :: u233 :: u234 :: u235 :: u236 :: u237 :: u238 :: u239 :: u240 :: u241 :: u242 :: u243 :: u244 :: u245 :: u246 :: u247 :: u248 :: u249 :: u250 :: u251 :: u252 :: u253 :: u254 :: u255 :: u256 :: u257 :: u258 :: u259 :: u260 :: u261 :: u262 :: u263 :: u264 :: u265 :: u266 :: u267 :: u268 :: u269 :: u270 :: u271 :: u272 :: u273 :: u274 :: u275 :: u276 :: u277 :: u278 :: u279 :: u280 :: u281 :: u282 :: u283 :: u284 :: u285 :: u286 :: u287 :: u288 :: u289 :: u290 :: u291 :: u292 :: u293 :: u294 :: u295 :: u296 :: u297 :: u298 :: u299 :: u300 :: u301 :: u302 :: u303 :: u304 :: u305 :: u306 :: u307 :: u308 :: u309 :: u310 :: u311 :: u312 :: u313 :: u314 :: u315 :: u316 :: u317 :: u318 :: u319 :: u320 :: u321 :: u322 :: u323 :: u324 :: u325 :: u326 :: u327 :: u328 :: u329 :: u330 :: u331 :: u332 :: u333 :: u334 :: u335 :: u336 :: u337 :: u338 :: u339 :: []).toArray, []⟩ w := by
  conv => arg 2; whnf
  have HRR := hid hRR
  have HSl := hid hs
  have HYs := hid hh
  have HRi := hid hR
  have HT := hid ht
  have HF := hid hF
  clear hRR hs hh hR ht hF
  obtain ⟨gs, vN, vE, hgs, HS⟩ := hM
  have HGS := hid hgs
  have hln : l.length = k := HF.out.len
  subst hln
  have hgl : gs.length = l.length := by have := congrArg List.length hgs; simpa using this
  obtain ⟨AN, cN, rfl, _⟩ := rd_slice (HS.front 1 _ rfl).row_rd
  obtain ⟨ge, ce, rfl, _⟩ := (HS.front 2 _ rfl).row_form (by rw [List.length_map]; omega)
  rw [show (gs.map Grp.dsc).length = l.length by simp [hgl], show (l.map (·.ep)).length = l.length by simp] at HS
  obtain ⟨ad, cl, rfl, q1, q2, q3⟩ := rd_getS (Kn.rd_below HYs.out HS.below) 3 rfl j hj
  obtain ⟨vm, rfl, q4⟩ := kShf_open q1
  have q5 : kBytes.rd w0 ys[j].mended [vm] := by
    obtain ⟨ad', cl', he, p1, p2, p3⟩ := rd_getS HYs.out 3 rfl j hj
    obtain ⟨vm', rfl, p4⟩ := kShf_open p1
    simp only [Option.some.injEq] at he
    subst he
    have e1 := q3 1 _ rfl
    have e2 := cell_below HS.below (p3 1 _ rfl)
    rw [e1] at e2
    simp only [Option.some.injEq] at e2
    rw [e2]; exact p4
  obtain ⟨Am, cm, rfl, _, hmm, _⟩ := rd_slice q5
  have hmm := len63 hmm
  have e0 := q2 _ rfl
  have e1 := q3 0 _ rfl
  have e2 := q3 1 _ rfl
  have HQ := hid q5
  obtain ⟨by0, by1, by2, by3, by4⟩ := hby
  have HB4 := hid by4
  obtain ⟨frm, hfrm⟩ : ∃ f, ys[j].src % 9 = f := ⟨_, rfl⟩
  obtain ⟨tt, htt⟩ : ∃ f, ys[j].dst % 9 = f := ⟨_, rfl⟩
  have hq1 : ys[j].src.tmod 9 = frm := by rw [Int.tmod_eq_emod_of_nonneg by0]; exact hfrm
  have hq2 : ys[j].dst.tmod 9 = tt := by rw [Int.tmod_eq_emod_of_nonneg by2]; exact htt
  have f0 : 0 ≤ frm := by omega
  have f1 : frm < 9 := by omega
  have t0 : 0 ≤ tt := by omega
  have t1 : tt < 9 := by omega
  have HT2 : Hid ((if clash frm tt l then (l, c) else (l.map (mv1 frm tt), c + ((lefts l frm sl).length : Int))) = (l', c')) := by
    have := HT.out
    unfold turn1 at this
    rw [hfrm, htt] at this
    exact this
  have S3 := hid (HS.box2 w.heap.size rfl [.int .u8 ys[j].src, .int .u8 ys[j].dst, .slice Am ys[j].mended.length cm] 27)
  have d0 := S3.out.at 0 rfl 0 _ rfl
  have d1 := S3.out.at 0 rfl 1 _ rfl
  clear hgl hgs HS q1 q2 q3 q4 q5 by4 hfrm htt HT
  go_wp2
  go_region
  have S4 := hid S3.out.drew
  have eN := S4.out.at 1 rfl 0 _ rfl
  clear S3 d0 d1 e0 e1 e2 hq1 hq2
  go_upto_block 6 with fail
  refine wp_ends (blk6 l gs frm tt _ bX AN cN (.slice (some ⟨ge, 0, none⟩) l.length ce) v12 _ w0 _ _ HGS.out (by omega) (by simp) S4.out (fun z23 => ?_))
  intros
  rename_i w2 HS
  clear S4 eN
  have l0 : 1 ≤ l.length := by omega
  have l1 : l.length ≤ 1000 := by omega
  have HV := hid (HS.out.front 5 _ rfl).row_rd
  rcases hc : clash frm tt l with _ | _
  · obtain ⟨nft, nhi⟩ := clash_false HF.out.right hc
    rw [hc] at HT2
    have HLc : Hid (l.map (mv1 frm tt) = l' ∧ c + ((lefts l frm sl).length : Int) = c') := by
      have := HT2.out
      simp only [Bool.false_eq_true, if_false, Prod.mk.injEq] at this
      exact this
    have NFT := hid nft
    have NHI := hid nhi
    have HF2 := hid (HF.out.mv (by omega) t0 (by omega) nhi)
    clear hc nft nhi HT2
    obtain ⟨A23, c23, rfl, _⟩ := rd_slice HS.out.row_rd
    go_upto_block 8 with (first
      | (go_at_call 27; refine (move_yes l v12 frm tt _ HV.out l0 l1 HF.out.right f0 (by omega) t0 (by omega) NFT.out NHI.out).mono ?_; rintro e w3 ⟨v26, vg, rfl, h3⟩; have S5 := hid (HS.out.frame h3); clear h3)
      | (go_at_call 28; refine (begin_yes l v12 frm tt sl _ _ (S5.out.front 7 _ rfl).row_rd l0 l1 HF.out.right f0 (by omega) t0 (by omega) NFT.out NHI.out (Kn.rd_below HSl.out S5.out.below) HRi.out (by omega)).mono ?_; rintro e w4 ⟨v29, v2, rfl, h4⟩; obtain ⟨A2, c2, hv2, _⟩ := rd_slice (h4.front 1 _ rfl).row_rd; subst hv2; have S6 := hid ((S5.out.frame h4).box2 w4.heap.size rfl [.int .i64 frm, .int .i64 tt, .slice A2 (lefts l frm sl).length c2] 55); clear h4))
    refine wp_ends (blk8 l gs frm tt bX A23 AN c23 cN ge ce _ _ _ _ _ _ _ w0 _ _ HGS.out l1 l' HLc.out.1 HF.out.right S6.out ?_)
    intros
    rename_i w5 hx
    obtain ⟨gs', hgs', h7⟩ := hx.out
    have S7 := hid h7
    have HGS' := hid hgs'
    clear hx h7 hgs' S6 S5 HS
    go_upto_block 10 with fail
    refine wp_ends (blk10 l sl frm bX As A23 AN cs c23 cN (.slice (some ⟨ge, 0, none⟩) l.length ce) _ _ _ _ _ _ _ w0 _ l0 l1 (by omega) HRi.out HSl.out S7.out (fun z34 => ?_))
    intros
    rename_i w6 S8
    obtain ⟨A34, c34, rfl, _⟩ := rd_slice S8.out.row_rd
    have hln := HF2.out.len
    have HMR : Hid (MRight ⟨frm, tt, lefts l frm sl⟩) := ⟨f0, by show frm < 256; omega, t0, by show tt < 256; omega, NFT.out, by show (lefts l frm sl).length ≤ 1000; have := lefts_len l frm sl; omega, lefts_rise HRi.out⟩
    have HR2 : Hid (∀ p ∈ l', PRight p) := by have := HF2.out.right; rwa [HLc.out.1] at this
    have hl' : l'.length = l.length := by rw [← HLc.out.1, List.length_map]
    have HL0 : Hid (1 ≤ l'.length ∧ l'.length ≤ 100) := by show _ ∧ _; omega
    have HPL : Hid (∀ (w : World) (va vb : Value), kPlaces.rd w l' [va] → kPlaces.rd w l' [vb] → Calls Try.prog 30 #[va, vb] w (Ret (.bool true) w)) := fun w va vb ha hb => by
      have := places17_any l' l' va vb w ha hb
      rwa [decide_eq_true rfl] at this
    have S8' : Hid (Star (Ck.row 3 (.int .i64) (.slice A34 (lefts l frm sl).length c34) (lefts l frm sl) :: Ck.blk w4.heap.size [.int .i64 frm, .int .i64 tt, .slice A2 (lefts l frm sl).length c2] 55 :: Ck.row 214 kPlace v29 l' :: Ck.row 3 (.int .i64) (.slice A2 (lefts l frm sl).length c2) (lefts l frm sl) :: Ck.row 214 kPlace v26 l' :: Ck.row 3 (.int .i64) vg (grs frm l) :: Ck.row 3 (.int .i64) (.slice A23 (grs frm l).length c23) (grs frm l) ::
        Ck.blk w.heap.size [.int .u8 ys[j].src, .int .u8 ys[j].dst, .slice Am ys[j].mended.length cm] 27 :: Ck.blk bX [.slice AN l.length cN, .slice (some ⟨ge, 0, none⟩) l.length ce] 64 :: Ck.row 25 kDsc (.slice AN l.length cN) (gs'.map Grp.dsc) :: Ck.row 3 (.int .i64) (.slice (some ⟨ge, 0, none⟩) l.length ce) (l'.map (·.ep)) :: Ck.row 214 kPlace v12 l :: gs'.map Grp.ck) w0 w0.heap.size w6) := by
      have := S8.out
      rw [HLc.out.1] at this
      exact this
    have x0 := S8'.out.at 1 rfl 0 _ rfl
    have x1 := S8'.out.at 1 rfl 1 _ rfl
    have x2 := S8'.out.at 1 rfl 2 _ rfl
    have hlft := lefts_len l frm sl
    have hw : IntKind.i64.wrap (c + ((lefts l frm sl).length : Int)) = c + ((lefts l frm sl).length : Int) := IntWalk.i64_in _ (by omega)
    clear S8 S7 hln hl'
    go_upto_block 14 with (first
      | (go_at_call 29; refine (num_same (S8'.out.front 5 _ rfl).row_rd (S8'.out.front 6 _ rfl).row_rd).mono ?_; rintro e w7 ⟨rfl, n7, rfl⟩; have S9 := hid (S8'.out.drewN n7); have HX9 := hid (mem_seats HGS'.out S9.out.tail.tail.tail.tail.tail.tail.tail.tail))
      | (go_at_call 25; refine (holds_any l' _ v26 _ HX9.out (S9.out.front 4 _ rfl).row_rd HL0.out.1 HL0.out.2 HR2.out).mono ?_; rintro e w8 ⟨rfl, hb8⟩; have S10 := hid (S9.out.go hb8))
      | (go_at_call 30; refine (HPL.out _ _ _ (S10.out.front 2 _ rfl).row_rd (S10.out.front 4 _ rfl).row_rd).mono ?_; rintro e w9 ⟨rfl, hb9⟩; have S11 := hid (S10.out.go hb9); have y0 := S11.out.at 1 rfl 0 _ rfl; have y1 := S11.out.at 1 rfl 1 _ rfl; have y2 := S11.out.at 1 rfl 2 _ rfl)
      | (go_at_call 22; refine (left_any ⟨frm, tt, lefts l frm sl⟩ _ _ _ (Kn.rd_of (kMoving_mk (m := ⟨frm, tt, lefts l frm sl⟩) (row_rep (S11.out.front 3 _ rfl).head))) S11.out.row_rd HMR.out).mono ?_; rintro e w10 ⟨rfl, hb10⟩; have S12 := hid (S11.out.go hb10); have u2 := S12.out.at 7 rfl 2 _ rfl))
    refine wp_endsN (blk14 frm tt (lefts l frm sl) ys[j].mended w4.heap.size cm Am (.slice A34 (lefts l frm sl).length c34) (.slice A2 (lefts l frm sl).length c2) (Ck.blk bX [.slice AN l.length cN, .slice (some ⟨ge, 0, none⟩) l.length ce] 64 :: Ck.row 25 kDsc (.slice AN l.length cN) (gs'.map Grp.dsc) :: Ck.row 3 (.int .i64) (.slice (some ⟨ge, 0, none⟩) l.length ce) (l'.map (fun x : Place => x.ep)) :: Ck.row 214 kPlace v26 l' :: gs'.map Grp.ck) w0 _ f0 f1 t0 t1 NFT.out HMR.out.rise HMR.out.len HQ.out hmm HB4.out (S12.out.perm [0, 1, 3, 8, 9, 10, 4] 12 (by decide) (by decide) (by simp)) ?_)
    intros
    rename_i w11 S13
    go_wp2
    obtain ⟨_, rfl⟩ := HLc.out
    exact HRR.out _ _ _ _ _ _ _ _ _ _ _ _ _ _ _ _ _ _ _ _ _ _ _ _ _ _ _ _ _ _ _ _ _ _ _ _ _ _ _ _ _ _ _ _ _ _ _ _ _ _ _ _ _ _ _ _ _ _ _ _ _ _ _ _ _ _ _ _ _ _ _ _ _ _ _ _ _ _ _ _ _ _ _ _ _ _ _ _ _ _ _ _ _ _ _ _ _ _ _ _ _ _ _ _ _ _ _ _ _ _ _ _ _ _ _ _ _ _ _ _ _ _ _ _ _ _ _ _ _ _ _ _ _ _ _ _ _ _ _ _ _ _ _ _ _ _ _ _ _ _ _ _ _ _ _ _ _ _ _ _ _ _ _ _ _ _ _ _ _ _ _ _ _ _ _ _ _ _ _ _ _ _ _ _ _ _ _ _ _ _ _ _ _ _ _ _ _ _ _ _ _ _ _ _ _ _ _ _ _ _ _ _ _ _ _ _ _ _ _ _ _ _ _ _ _ _ _ _ _ _ _ _ _ _ _ _ _ _ _ _ _ _ _ _ _ _ _ _ _ _ _ _ _ _ _ ⟨gs', _, _, HGS'.out, S13.out⟩
  · have c2 := clash_true HF.out.right hc
    rw [hc] at HT2
    have HLc : Hid (l = l' ∧ c = c') := by
      have := HT2.out
      simp only [if_true, Prod.mk.injEq] at this
      exact this
    have C2 := hid c2
    clear hc c2 HT2
    go_wp2_with (first
      | (go_at_call 27; refine (move_no l v12 frm tt _ HV.out l0 l1 HF.out.right f0 (by omega) t0 (by omega) C2.out).mono ?_; rintro e w3 ⟨rfl, hb3⟩; have S5 := hid (HS.out.go hb3))
      | (go_at_call 28; refine (begin_no l v12 frm tt _ _ (S5.out.front 5 _ rfl).row_rd l0 l1 HF.out.right f0 (by omega) t0 (by omega) C2.out).mono ?_; rintro e w4 ⟨rfl, hb4⟩; have S6 := hid ((S5.out.go hb4).alloc (.cells #[.int .i64 0, .int .i64 0, .slice none 0 0] 55))))
    obtain ⟨rfl, rfl⟩ := HLc.out
    exact HRR.out _ _ _ _ _ _ _ _ _ _ _ _ _ _ _ _ _ _ _ _ _ _ _ _ _ _ _ _ _ _ _ _ _ _ _ _ _ _ _ _ _ _ _ _ _ _ _ _ _ _ _ _ _ _ _ _ _ _ _ _ _ _ _ _ _ _ _ _ _ _ _ _ _ _ _ _ _ _ _ _ _ _ _ _ _ _ _ _ _ _ _ _ _ _ _ _ _ _ _ _ _ _ _ _ _ _ _ _ _ _ _ _ _ _ _ _ _ _ _ _ _ _ _ _ _ _ _ _ _ _ _ _ _ _ _ _ _ _ _ _ _ _ _ _ _ _ _ _ _ _ _ _ _ _ _ _ _ _ _ _ _ _ _ _ _ _ _ _ _ _ _ _ _ _ _ _ _ _ _ _ _ _ _ _ _ _ _ _ _ _ _ _ _ _ _ _ _ _ _ _ _ _ _ _ _ _ _ _ _ _ _ _ _ _ _ _ _ _ _ _ _ _ _ _ _ _ _ _ _ _ _ _ _ _ _ _ _ _ _ _ _ _ _ _ _ _ _ _ _ _ _ _ _ _ _ ⟨gs, _, _, HGS.out, S6.out.tail.tail⟩
end Go.Proofs.Ytihfikepfhcboaa
