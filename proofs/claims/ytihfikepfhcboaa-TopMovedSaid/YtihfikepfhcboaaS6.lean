/-
  Walks: moved17: the first placements.
-/
import Derived.Test.YtihfikepfhcboaaP7
import Derived.Test.YtihfikepfhcboaaR1
import Derived.Test.YtihfikepfhcboaaR2
namespace Go.Proofs.Ytihfikepfhcboaa
open Go.RowKit Go.Maps

set_option maxHeartbeats 8000000 in
set_option maxRecDepth 100000 in
theorem blk0 {u3 u4 u5 u6 u7 u8 u9 u10 u11 u12 u13 u16 u17 u18 u19 u20 u21 u22 u23 u24 u25 u26 u27 u28 u29 u30 u31 u32 u33 u34 u35 u36 u37 u38 u39 u40 u41 u42 u43 u44 u45 u46 u47 u48 u49 u50 u51 u52 u53 u54 u55 u56 u57 u58 u59 u60 u61 u62 u63 u64 u65 u66 u67 u68 u69 u70 u71 u72 u73 u74 u75 u76 u77 u78 u79 u80 u81 u82 u83 u84 u85 u86 u87 u88 u89 u90 u91 u92 u93 u94 u95 u96 u97 u98 u99 u100 u101 u102 u103 u104 u105 u106 u107 u108 u109 u110 u111 u112 u113 u114 u115 u116 u117 u118 u119 u120 u121 u122 u123 u124 u125 u126 u127 u128 u129 u130 u131 u132 u133 u134 u135 u136 u137 u138 u139 u140 u141 u142 u143 u144 u145 u146 u147 u148 u149 u150 u151 u152 u153 u154 u155 u156 u157 u158 u159 u160 u161 u162 u163 u164 u165 u166 u167 u168 u169 u170 u171 u172 u173 u174 u175 u176 u177 u178 u179 u180 u181 u182 u183 u184 u185 u186 u187 u188 u189 u190 u191 u192 u193 u194 u195 u196 u197 u198 u199 u200 u201 u202 u203 u204 u205 u206 u207 u208 u209 u210 u211 u212 u213 u214 u215 u216 u217 u218 u219 u220 u221 u222 u223 u224 u225 u226 u227 u228 u229 u230 u231 u232 u233 u234 u235 u236 u237 u238 u239 u240 u241 u242 u243 u244 u245 u246 u247 u248 u249 u250 u251 u252 u253 u254 u255 u256 u257 u258 u259 u260 u261 u262 u263 u264 u265 u266 u267 u268 u269 u270 u271 u272 u273 u274 u275 u276 u277 u278 u279 u280 u281 u282 u283 u284 u285 u286 u287 u288 u289 u290 u291 u292 u293 u294 u295 u296 u297 u298 u299 u300 u301 u302 u303 u304 u305 u306 u307 u308 u309 u310 u311 u312 u313 u314 u315 u316 u317 u318 u319 u320 u321 u322 u323 u324 u325 u326 u327 u328 u329 u330 u331 u332 u333 u334 u335 u336 u337 u338 u339 : Value} {RR : Act → World → Prop} (nodes n groups bX : Nat) (v12 : Value) (w0 : World) (B : Nat) (w : World) (h0 : 1 ≤ nodes) (h1 : nodes ≤ 9) (h2 : 1 ≤ n) (h3 : n ≤ nodes) (h4 : 1 ≤ groups) (h5 : groups ≤ 7)
    (S : Star [Ck.blk bX [.slice none 0 0, .slice none 0 0] 64, Ck.row 214 kPlace v12 (ring nodes n groups)] w0 B w)
    (hRR : ∀ (z15 z16 z17 z60 z61 z62 z63 z64 z65 z66 z67 z68 z69 z70 z71 z72 z73 z74 z75 z76 z77 z78 z79 z80 z81 z82 z83 z84 z85 z86 z87 z88 z89 z90 z91 z92 z93 z94 z95 z96 : Value) (w' : World), Hid (Mem bX v12 (ring nodes n groups) w0 B w') → RR ⟨(.int .i64 (nodes : Nat) :: .int .i64 (n : Nat) :: .int .i64 (groups : Nat) :: u3 :: u4 :: u5 :: u6 :: u7 :: u8 :: u9 :: u10 :: u11 :: u12 :: u13 :: .pointer (some ⟨bX, 0, none⟩) :: z15 :: z16 :: z17 :: u18 :: u19 :: u20 :: u21 :: u22 :: u23 :: u24 :: u25 :: u26 :: u27 :: u28 :: u29 :: u30 :: u31 :: u32 :: u33 :: u34 :: u35 :: u36 :: u37 :: u38 :: u39 :: u40 :: u41 :: u42 :: u43 :: u44 :: u45 :: u46 :: u47 :: u48 :: u49 :: u50 :: u51 :: u52 :: u53 :: u54 :: u55 :: u56 :: u57 :: u58 :: u59 :: z60 :: z61 :: z62 :: z63 :: z64 :: z65 :: z66 :: z67 :: z68 :: z69 :: z70 :: z71 :: z72 :: z73 :: z74 :: z75 :: z76 :: z77 :: z78 :: z79 :: z80 :: z81 :: z82 :: z83 :: z84 :: z85 :: z86 :: z87 :: z88 :: z89 :: z90 :: z91 :: z92 :: z93 :: z94 :: z95 :: z96 :: u97 :: u98 :: u99 :: u100 :: u101 :: u102 :: u103 :: u104 :: u105 :: u106 :: u107 :: u108 :: u109 :: u110 :: u111 :: u112 :: u113 :: u114 :: u115 :: u116 :: u117 :: u118 :: u119 :: u120 :: u121 :: u122 :: u123 :: u124 :: u125 :: u126 :: u127 :: u128 :: u129 :: u130 :: u131 :: u132 :: u133 :: u134 :: u135 :: u136 :: u137 :: u138 :: u139 :: u140 :: u141 :: u142 :: u143 :: u144 :: u145 :: u146 :: u147 :: u148 :: u149 :: u150 :: u151 :: u152 :: u153 :: u154 :: u155 :: u156 :: u157 :: u158 :: u159 :: u160 :: u161 :: u162 :: u163 :: u164 :: u165 :: u166 :: u167 :: u168 :: u169 :: u170 :: u171 :: u172 :: u173 :: u174 :: u175 :: u176 :: u177 :: u178 :: u179 :: u180 :: u181 :: u182 :: u183 :: u184 :: u185 :: u186 :: u187 :: u188 :: u189 :: u190 :: u191 :: u192 :: u193 :: u194 :: u195 :: u196 :: u197 :: u198 :: u199 :: u200 :: u201 :: u202 :: u203 :: u204 :: u205 :: u206 :: u207 :: u208 :: u209 :: u210 :: u211 :: u212 :: u213 :: u214 :: u215 :: u216 :: u217 :: u218 :: u219 :: u220 :: u221 :: u222 :: u223 :: u224 :: u225 :: u226 :: u227 :: u228 :: u229 :: u230 :: u231 :: u232 :: u233 :: u234 :: u235 :: u236 :: u237 :: u238 :: u239 :: u240 :: u241 :: u242 :: u243 :: u244 :: u245 :: u246 :: u247 :: u248 :: u249 :: u250 :: u251 :: u252 :: u253 :: u254 :: u255 :: u256 :: u257 :: u258 :: u259 :: u260 :: u261 :: u262 :: u263 :: u264 :: u265 :: u266 :: u267 :: u268 :: u269 :: u270 :: u271 :: u272 :: u273 :: u274 :: u275 :: u276 :: u277 :: u278 :: u279 :: u280 :: u281 :: u282 :: u283 :: u284 :: u285 :: u286 :: u287 :: u288 :: u289 :: u290 :: u291 :: u292 :: u293 :: u294 :: u295 :: u296 :: u297 :: u298 :: u299 :: u300 :: u301 :: u302 :: u303 :: u304 :: u305 :: u306 :: u307 :: u308 :: u309 :: u310 :: u311 :: u312 :: u313 :: u314 :: u315 :: u316 :: u317 :: u318 :: u319 :: u320 :: u321 :: u322 :: u323 :: u324 :: u325 :: u326 :: u327 :: u328 :: u329 :: u330 :: u331 :: u332 :: u333 :: u334 :: u335 :: u336 :: u337 :: u338 :: u339 :: []).toArray, []⟩ w') :
    (blkOf 0 (bodyOf Try.f9)).wp Try.prog (Ends RR)
      ⟨(.int .i64 (nodes : Nat) :: .int .i64 (n : Nat) :: .int .i64 (groups : Nat) :: u3 :: u4 :: u5 :: u6 :: u7 :: u8 :: u9 :: u10 :: u11 :: u12 :: u13 :: .pointer (some ⟨bX, 0, none⟩) :: .int .i64 0 :: u16 :: u17 :: u18 :: u19 :: u20 :: u21 :: u22 :: u23 :: u24 :: u25 :: u26 :: u27 :: u28 :: u29 :: u30 :: u31 :: u32 :: u33 :: u34 :: u35 :: u36 :: u37 :: u38 :: u39 :: u40 :: u41 :: u42 :: u43 :: u44 :: u45 :: u46 :: u47 :: u48 :: u49 :: u50 :: u51 :: u52 :: u53 :: u54 :: u55 :: u56 :: u57 :: u58 :: u59 :: u60 :: u61 :: u62 :: u63 :: u64 :: u65 :: u66 :: u67 :: u68 :: u69 :: u70 :: u71 :: u72 :: u73 :: u74 :: u75 :: u76 :: u77 :: u78 :: u79 :: u80 :: u81 :: u82 :: u83 :: u84 :: u85 :: u86 :: u87 :: u88 :: u89 :: u90 :: u91 :: u92 :: u93 :: u94 :: u95 :: u96 :: u97 :: u98 :: u99 :: u100 :: u101 :: u102 :: u103 :: u104 :: u105 :: u106 :: u107 :: u108 :: u109 :: u110 :: u111 :: u112 :: u113 :: u114 :: u115 :: u116 :: u117 :: u118 :: u119 :: u120 :: u121 :: u122 :: u123 :: u124 :: u125 :: u126 :: u127 :: u128 :: u129 :: u130 :: u131 :: u132 :: u133 :: u134 :: u135 :: u136 :: u137 :: u138 :: u139 :: u140 :: u141 :: u142 :: u143 :: u144 :: u145 :: u146 :: u147 :: u148 :: u149 :: u150 :: u151 :: u152 :: u153 :: u154 :: u155 :: u156 :: u157 :: u158 :: u159 :: u160 :: u161 :: u162 :: u163 :: u164 :: u165 :: u166 :: u167 :: u168 :: u169 :: u170 :: u171 :: u172 :: u173 :: u174 :: u175 :: u176 :: u177 :: u178 :: u179 :: u180 :: u181 :: u182 :: u183 :: u184 :: u185 :: u186 :: u187 :: u188 :: u189 :: u190 :: u191 :: u192 :: u193 :: u194 :: u195 :: u196 :: u197 :: u198 :: u199 :: u200 :: u201 :: u202 :: u203 :: u204 :: u205 :: u206 :: u207 :: u208 :: u209 :: u210 :: u211 :: u212 :: u213 :: u214 :: u215 :: u216 :: u217 :: u218 :: u219 :: u220 :: u221 :: u222 :: u223 :: u224 :: u225 :: u226 :: u227 :: u228 :: u229 :: u230 :: u231 :: u232 :: u233 :: u234 :: u235 :: u236 :: u237 :: u238 :: u239 :: u240 :: u241 :: u242 :: u243 :: u244 :: u245 :: u246 :: u247 :: u248 :: u249 :: u250 :: u251 :: u252 :: u253 :: u254 :: u255 :: u256 :: u257 :: u258 :: u259 :: u260 :: u261 :: u262 :: u263 :: u264 :: u265 :: u266 :: u267 :: u268 :: u269 :: u270 :: u271 :: u272 :: u273 :: u274 :: u275 :: u276 :: u277 :: u278 :: u279 :: u280 :: u281 :: u282 :: u283 :: u284 :: u285 :: u286 :: u287 :: u288 :: u289 :: u290 :: u291 :: u292 :: u293 :: u294 :: u295 :: u296 :: u297 :: u298 :: u299 :: u300 :: u301 :: u302 :: u303 :: u304 :: u305 :: u306 :: u307 :: u308 :: u309 :: u310 :: u311 :: u312 :: u313 :: u314 :: u315 :: u316 :: u317 :: u318 :: u319 :: u320 :: u321 :: u322 :: u323 :: u324 :: u325 :: u326 :: u327 :: u328 :: u329 :: u330 :: u331 :: u332 :: u333 :: u334 :: u335 :: u336 :: u337 :: u338 :: u339 :: []).toArray, []⟩ w := by
  conv => arg 2; whnf
  have HRR := hid hRR
  have S2 := hid S
  clear hRR S
  go_wp2
  go_loopw [15, 16, 17] (fun i _ _ wr => ∃ (k : Nat) (gs : List Grp) (vN vE : Value), i = .int .i64 k ∧ k ≤ groups ∧ gs.map (·.xs) = (ring nodes n k).map (·.nodes) ∧
    Hid (Star (Ck.blk bX [vN, vE] 64 :: Ck.row 25 kDsc vN (gs.map Grp.dsc) :: Ck.row 3 (.int .i64) vE ((ring nodes n k).map (·.ep)) :: Ck.row 214 kPlace v12 (ring nodes n groups) :: gs.map Grp.ck) w0 B wr)) (fun i _ _ _ => groups - (intOf i).toNat)
  case atStart => exact ⟨0, [], _, _, rfl, by omega, rfl, ((S2.out.nilrow 3 (.int .i64)).nilrow 25 kDsc).perm [2, 0, 1, 3] 4 (by decide) (by decide) (by simp)⟩
  case round =>
    clear S2
    obtain ⟨k, gs, vN, vE, rfl, hk, hgs, HS⟩ := hrel
    have HGS := hid hgs
    clear hgs
    by_cases hlt : k < groups
    · obtain ⟨wo, rfl⟩ : ∃ wo : World, wo = wr := ⟨_, rfl⟩
      have S1 := hid (HS.out.nilrow 3 (.int .i64))
      have HK := hid (Nat.le_trans hk h5)
      go_wp2
      go_loopw [16, 17] (fun v16 j wr' => ∃ m : Nat, j = .int .i64 m ∧ m ≤ n ∧ Hid (Star (Ck.row 3 (.int .i64) v16 (ringNodes nodes m k) :: Ck.blk bX [vN, vE] 64 :: Ck.row 25 kDsc vN (gs.map Grp.dsc) :: Ck.row 3 (.int .i64) vE ((ring nodes n k).map (·.ep)) :: Ck.row 214 kPlace v12 (ring nodes n groups) :: gs.map Grp.ck) w0 B wr')) (fun _ j _ => n - (intOf j).toNat)
      case atStart => exact ⟨0, rfl, by omega, S1.out⟩
      case round =>
        clear HS S1
        obtain ⟨m, rfl, hm, HS⟩ := hrel
        by_cases hlm : m < n
        · have HP := hid (HS.out.inn1 .i64 (((k + m) % nodes : Nat) : Int))
          have HL : Hid (((ringNodes nodes m k).length + 1) * 8 ≤ 140737488355328) := by show _ ≤ _; rw [ringNodes_length]; omega
          have hw : IntKind.i64.wrap ((k : Int) + m) = (k : Int) + m := IntWalk.i64_in _ (by have := HK.out; omega)
          have hn0 : ¬ nodes = 0 := by omega
          have hq : ((k : Int) + m).tmod (nodes : Int) = (((k + m) % nodes : Nat) : Int) := by
            rw [Int.tmod_eq_emod_of_nonneg (by omega), Int.natCast_emod, Int.natCast_add]
          go_wp2_with (at_builtin; refine app1 rfl _ _ 25 _ 8 rfl Try.underlying25 info3 rfl (by decide) (by decide) HP.out rfl rfl HL.out ?_; intro v' w' h6 _; have HN := hid h6; clear h6)
          clear hw hn0 hq
          go_roundw
          case rel => exact ⟨m + 1, by go_num, by omega, by rw [ringNodes_succ]; exact HN.out⟩
          case measure => simp [intOf]; omega
        · obtain rfl : m = n := by omega
          have hgl : gs.length = k := by have := congrArg List.length HGS.out; simpa [ring_length] using this
          have hk7 := HK.out
          obtain ⟨g, cap, rfl, _⟩ := HS.out.row_form (by rw [ringNodes_length]; omega)
          have HD := hid HS.out.drew
          have bl := (HS.out.front 1 _ rfl).blk_lt
          have e0 := HS.out.at 1 rfl 0 _ rfl
          have e1 := HS.out.at 1 rfl 1 _ rfl
          have X1 := hid (HD.out.dsc1n wr.heap.size rfl ⟨g, (ringNodes nodes m k).length, cap⟩)
          have X2 := hid (HD.out.num1n wr.heap.size rfl 3 .i64 1)
          have X12 := hid (X1.out.num1n (wr.heap.size + 1) (by simp) 3 .i64 1)
          have X21 := hid ((HD.out.num1n wr.heap.size rfl 3 .i64 1).dsc1n (wr.heap.size + 1) (by simp) ⟨g, (ringNodes nodes m k).length, cap⟩)
          have HL1 : Hid (((gs.map Grp.dsc).length + 1) * 24 ≤ 140737488355328) := by show _ ≤ _; rw [List.length_map]; omega
          have HL2 : Hid ((((ring nodes m k).map (·.ep)).length + 1) * 8 ≤ 140737488355328) := by show _ ≤ _; rw [List.length_map, ring_length]; omega
          go_wp2
          have HL8 : Hid ((gs.map Grp.dsc ++ [(⟨g, (ringNodes nodes m k).length, cap⟩ : Dsc)]).length = k + 1) := by show _ = _; simp [hgl]
          have HL14 : Hid (((ring nodes m k).map (·.ep) ++ [(1 : Int)]).length = (ring nodes m k).length + 1) := by show _ = _; simp
          have HEP : Hid ((ring nodes m (k + 1)).map (·.ep) = (ring nodes m k).map (·.ep) ++ [1]) := by show _ = _; rw [ring_succ]; simp
          have hS0 : (fun w' : World => w'.cell? ⟨bX, 0, none⟩ = some vN ∧ w'.cell? ⟨bX, 1, none⟩ = some vE) wr.drew := ⟨e0.1, e1.1⟩
          refine wp_region_G (fun w' : World => w'.cell? ⟨bX, 0, none⟩ = some vN ∧ w'.cell? ⟨bX, 1, none⟩ = some vE) 17 (by kernel_rfl) ?_
          refine wpAnyG_take0 (i := 0) (v := ?v0) rfl (by kernel_rfl) (by kernel_rfl) (by kernel_rfl) (fun _ _ _ h => h) (by decide) (.inr hS0) (Or.inl ⟨by rfl, ?hy0⟩) ?rest0
          case hy0 => intro w' _; go_simp; try with_reducible rfl
          simp only [Act.put, List.setIfInBounds_toArray, List.set_cons_zero, List.set_cons_succ]
          refine wpAnyG_take0 (i := 1) (v := ?v1) rfl (by kernel_rfl) (by kernel_rfl) (by kernel_rfl) (fun _ _ _ h => h) (by decide) (.inr hS0) (Or.inl ⟨by rfl, ?hy1⟩) ?rest1
          case hy1 => intro w' _; go_simp; try with_reducible rfl
          simp only [Act.put, List.setIfInBounds_toArray, List.set_cons_zero, List.set_cons_succ]
          refine wpAnyG_take0 (i := 2) (v := ?v2) rfl (by kernel_rfl) (by kernel_rfl) (by kernel_rfl) (fun _ _ _ h => h) (by decide) (.inr hS0) (Or.inl ⟨by rfl, ?hy2⟩) ?rest2
          case hy2 => intro w' _; go_simp; try with_reducible rfl
          simp only [Act.put, List.setIfInBounds_toArray, List.set_cons_zero, List.set_cons_succ]
          refine wpAnyG_take0 (i := 3) (v := ?v3) rfl (by kernel_rfl) (by kernel_rfl) (by kernel_rfl) (fun _ _ _ h => h) (by decide) (.inr hS0) (Or.inl ⟨by rfl, ?hy3⟩) ?rest3
          case hy3 => intro w' _; go_simp; try with_reducible rfl
          simp only [Act.put, List.setIfInBounds_toArray, List.set_cons_zero, List.set_cons_succ]
          refine wpAnyG_take0 (i := 4) (v := ?v4) rfl (by kernel_rfl) (by kernel_rfl) (by kernel_rfl) (fun _ _ _ h => h) (by decide) (.inr hS0) (Or.inl ⟨by rfl, ?hy4⟩) ?rest4
          case hy4 => intro w' _; go_simp; try with_reducible rfl
          simp only [Act.put, List.setIfInBounds_toArray, List.set_cons_zero, List.set_cons_succ]
          refine wpAnyG_take (i := 5) (v := ?v5) rfl (by kernel_rfl) (by kernel_rfl) (by kernel_rfl) (fun _ _ _ h => h) (by decide) (by kernel_rfl) (by kernel_rfl) hS0 (Or.inl ⟨by rfl, ?hy5⟩) ?rest5
          case hy5 => intro w' hSw; obtain ⟨hs0, hs1⟩ := hSw; go_simp; try with_reducible rfl
          simp only [Act.put, List.setIfInBounds_toArray, List.set_cons_zero, List.set_cons_succ]
          refine wpAnyG_take0 (i := 6) (v := ?v6) rfl (by kernel_rfl) (by kernel_rfl) (by kernel_rfl) (fun _ _ _ h => h) (by decide) (.inr hS0) (Or.inl ⟨by rfl, ?hy6⟩) ?rest6
          case hy6 => intro w' _; go_simp; try with_reducible rfl
          simp only [Act.put, List.setIfInBounds_toArray, List.set_cons_zero, List.set_cons_succ]
          refine wpAnyG_take0 (i := 9) (v := ?v9) rfl (by kernel_rfl) (by kernel_rfl) (by kernel_rfl) (fun _ _ _ h => h) (by decide) (.inr hS0) (Or.inl ⟨by rfl, ?hy9⟩) ?rest9
          case hy9 => intro w' _; go_simp; try with_reducible rfl
          simp only [Act.put, List.setIfInBounds_toArray, List.set_cons_zero, List.set_cons_succ]
          refine wpAnyG_take0 (i := 10) (v := ?v10) rfl (by kernel_rfl) (by kernel_rfl) (by kernel_rfl) (fun _ _ _ h => h) (by decide) (.inr hS0) (Or.inl ⟨by rfl, ?hy10⟩) ?rest10
          case hy10 => intro w' _; go_simp; try with_reducible rfl
          simp only [Act.put, List.setIfInBounds_toArray, List.set_cons_zero, List.set_cons_succ]
          refine wpAnyG_take0 (i := 11) (v := ?v11) rfl (by kernel_rfl) (by kernel_rfl) (by kernel_rfl) (fun _ _ _ h => h) (by decide) (.inr hS0) (Or.inl ⟨by rfl, ?hy11⟩) ?rest11
          case hy11 => intro w' _; go_simp; try with_reducible rfl
          simp only [Act.put, List.setIfInBounds_toArray, List.set_cons_zero, List.set_cons_succ]
          refine wpAnyG_take (i := 12) (v := ?v12) rfl (by kernel_rfl) (by kernel_rfl) (by kernel_rfl) (fun _ _ _ h => h) (by decide) (by kernel_rfl) (by kernel_rfl) hS0 (Or.inl ⟨by rfl, ?hy12⟩) ?rest12
          case hy12 => intro w' hSw; obtain ⟨hs0, hs1⟩ := hSw; go_simp; try with_reducible rfl
          simp only [Act.put, List.setIfInBounds_toArray, List.set_cons_zero, List.set_cons_succ]

          refine wpAnyG_ready (rs := [7, 13]) (by kernel_rfl) (by simp) ?_
          refine AllG.cons rfl (fun K hK => ?_) (AllG.cons rfl (fun K hK => ?_) AllG.nil)
          · go_simp
            refine hK.out _ _ (.inr ⟨(X1.out.at 2 rfl 0 _ rfl).1, (X1.out.at 2 rfl 1 _ rfl).1⟩) ?_
            try simp only [Act.put, List.setIfInBounds_toArray, List.set_cons_zero, List.set_cons_succ]
            refine wpAnyG_ready (rs := [8, 13]) (by kernel_rfl) (by simp) ?_
            refine AllG.cons rfl (fun K hK => ?_) (AllG.cons rfl (fun K hK => ?_) AllG.nil)
            · refine appS_step rfl _ _ 62 _ 24 rfl Try.underlying62 info25 rfl (by decide) (X1.out.front 3 _ rfl) rfl rfl X1.out.row_rd HL1.out ?_
              intro v8 w8 h8 _ _
              obtain ⟨A8, c8, hv8, _⟩ := rd_slice h8.row_rd
              subst hv8
              have S8 := hid h8
              clear h8
              refine hK.out _ _ (.inr ⟨(S8.out.at 3 rfl 0 _ rfl).1, (S8.out.at 3 rfl 1 _ rfl).1⟩) ?_
              try simp only [Act.put, List.setIfInBounds_toArray, List.set_cons_zero, List.set_cons_succ]
              refine wpAnyG_ready (rs := [13]) (by kernel_rfl) (by simp) ?_
              refine AllG.cons rfl (fun K hK => ?_) AllG.nil
              have SA := hid (S8.out.num1 3 .i64 1)
              go_simp
              refine hK.out _ _ (.inr ⟨(SA.out.at 4 rfl 0 _ rfl).1, (SA.out.at 4 rfl 1 _ rfl).1⟩) ?_
              try simp only [Act.put, List.setIfInBounds_toArray, List.set_cons_zero, List.set_cons_succ]
              refine wpAnyG_ready (rs := [14]) (by kernel_rfl) (by simp) ?_
              refine AllG.cons rfl (fun K hK => ?_) AllG.nil
              refine appS_step rfl _ _ 25 _ 8 rfl Try.underlying25 info3 rfl (by decide) (SA.out.front 5 _ rfl) rfl rfl SA.out.row_rd HL2.out ?_
              intro v14 w14 h14 _ _
              obtain ⟨A14, c14, hv14, _⟩ := rd_slice h14.row_rd
              subst hv14
              have SF := hid (h14.perm [2, 0, 4, 5, 6] 7 (by decide) (by decide) (by simp))
              clear h14
              have e04 := SF.out.at 3 rfl 0 _ rfl
              have e14 := SF.out.at 3 rfl 1 _ rfl
              refine hK.out _ _ (.inr ⟨e04.1, e14.1⟩) ?_
              try simp only [Act.put, List.setIfInBounds_toArray, List.set_cons_zero, List.set_cons_succ]
              refine wpAnyG_take0 (i := 15) (v := .pointer (some ⟨bX, 0, none⟩)) rfl (by kernel_rfl) (by kernel_rfl) (by kernel_rfl) (fun _ _ _ h => h) (by decide) (.inr ⟨e04.1, e14.1⟩) (Or.inl ⟨by rfl, by intro w' _; go_simp⟩) ?_
              try simp only [Act.put, List.setIfInBounds_toArray, List.set_cons_zero, List.set_cons_succ]
              refine wpAnyG_take0 (i := 16) (v := .pointer (some ⟨bX, 0, none⟩)) rfl (by kernel_rfl) (by kernel_rfl) (by kernel_rfl) (fun _ _ _ h => h) (by decide) (.inr ⟨e04.1, e14.1⟩) (Or.inl ⟨by rfl, by intro w' _; go_simp⟩) ?_
              try simp only [Act.put, List.setIfInBounds_toArray, List.set_cons_zero, List.set_cons_succ]
              refine wpAnyG_ready (rs := [17]) (by kernel_rfl) (by simp) ?_
              refine AllG.cons rfl (fun K hK => ?_) AllG.nil
              go_simp
              refine hK.out _ _ (.inl (by kernel_rfl)) ?_
              try simp only [Act.put, List.setIfInBounds_toArray, List.set_cons_zero, List.set_cons_succ]
              refine wpAnyG_take0 (i := 18) (v := .pointer (some ⟨bX, 0, none⟩)) rfl (by kernel_rfl) (by kernel_rfl) (by kernel_rfl) (fun _ _ _ h => h) (by decide) (.inl (by kernel_rfl)) (Or.inl ⟨by rfl, by intro w' _; go_simp⟩) ?_
              try simp only [Act.put, List.setIfInBounds_toArray, List.set_cons_zero, List.set_cons_succ]
              refine wpAnyG_take0 (i := 19) (v := .pointer (some ⟨bX, 1, none⟩)) rfl (by kernel_rfl) (by kernel_rfl) (by kernel_rfl) (fun _ _ _ h => h) (by decide) (.inl (by kernel_rfl)) (Or.inl ⟨by rfl, by intro w' _; go_simp⟩) ?_
              try simp only [Act.put, List.setIfInBounds_toArray, List.set_cons_zero, List.set_cons_succ]
              refine wpAnyG_ready (rs := [20]) (by kernel_rfl) (by simp) ?_
              refine AllG.cons rfl (fun K hK => ?_) AllG.nil
              go_simp
              refine hK.out _ _ (.inl (by kernel_rfl)) ?_
              try simp only [Act.put, List.setIfInBounds_toArray, List.set_cons_zero, List.set_cons_succ]
              refine wpAnyG_done (by kernel_rfl) ?_ _
              go_wp2
              go_roundw
              case rel =>
                have HN := grp_add (b := bX) (gs := gs) (r := ⟨g, cap, ringNodes nodes m k⟩) (eps := (ring nodes m k).map (·.ep) ++ [1]) (c := Ck.row 214 kPlace v12 (ring nodes m groups)) SF.out
                simp only [HL8.out, HL14.out] at HN
                exact ⟨k + 1, gs ++ [⟨g, cap, ringNodes nodes m k⟩], _, _, by go_num, by omega, by rw [ring_succ]; simp [HGS.out], by rw [HEP.out]; exact HN⟩
              case measure => simp [intOf]; omega
            · go_simp
              refine hK.out _ _ (.inr ⟨(X12.out.at 3 rfl 0 _ rfl).1, (X12.out.at 3 rfl 1 _ rfl).1⟩) ?_
              try simp only [Act.put, List.setIfInBounds_toArray, List.set_cons_zero, List.set_cons_succ]
              refine wpAnyG_ready (rs := [8]) (by kernel_rfl) (by simp) ?_
              refine AllG.cons rfl (fun K hK => ?_) AllG.nil
              refine appS_step rfl _ _ 62 _ 24 rfl Try.underlying62 info25 rfl (by decide) (X12.out.front 4 _ rfl) rfl rfl (X12.out.front 1 _ rfl).row_rd HL1.out ?_
              intro v8 w8 h8 _ _
              obtain ⟨A8, c8, hv8, _⟩ := rd_slice h8.row_rd
              subst hv8
              have SB := hid h8
              clear h8
              refine hK.out _ _ (.inr ⟨(SB.out.at 4 rfl 0 _ rfl).1, (SB.out.at 4 rfl 1 _ rfl).1⟩) ?_
              try simp only [Act.put, List.setIfInBounds_toArray, List.set_cons_zero, List.set_cons_succ]
              refine wpAnyG_ready (rs := [14]) (by kernel_rfl) (by simp) ?_
              refine AllG.cons rfl (fun K hK => ?_) AllG.nil
              refine appS_step rfl _ _ 25 _ 8 rfl Try.underlying25 info3 rfl (by decide) (SB.out.front 5 _ rfl) rfl rfl (SB.out.front 1 _ rfl).row_rd HL2.out ?_
              intro v14 w14 h14 _ _
              obtain ⟨A14, c14, hv14, _⟩ := rd_slice h14.row_rd
              subst hv14
              have SF := hid (h14.perm [1, 0, 4, 5, 6] 7 (by decide) (by decide) (by simp))
              clear h14
              have e04 := SF.out.at 3 rfl 0 _ rfl
              have e14 := SF.out.at 3 rfl 1 _ rfl
              refine hK.out _ _ (.inr ⟨e04.1, e14.1⟩) ?_
              try simp only [Act.put, List.setIfInBounds_toArray, List.set_cons_zero, List.set_cons_succ]
              refine wpAnyG_take0 (i := 15) (v := .pointer (some ⟨bX, 0, none⟩)) rfl (by kernel_rfl) (by kernel_rfl) (by kernel_rfl) (fun _ _ _ h => h) (by decide) (.inr ⟨e04.1, e14.1⟩) (Or.inl ⟨by rfl, by intro w' _; go_simp⟩) ?_
              try simp only [Act.put, List.setIfInBounds_toArray, List.set_cons_zero, List.set_cons_succ]
              refine wpAnyG_take0 (i := 16) (v := .pointer (some ⟨bX, 0, none⟩)) rfl (by kernel_rfl) (by kernel_rfl) (by kernel_rfl) (fun _ _ _ h => h) (by decide) (.inr ⟨e04.1, e14.1⟩) (Or.inl ⟨by rfl, by intro w' _; go_simp⟩) ?_
              try simp only [Act.put, List.setIfInBounds_toArray, List.set_cons_zero, List.set_cons_succ]
              refine wpAnyG_ready (rs := [17]) (by kernel_rfl) (by simp) ?_
              refine AllG.cons rfl (fun K hK => ?_) AllG.nil
              go_simp
              refine hK.out _ _ (.inl (by kernel_rfl)) ?_
              try simp only [Act.put, List.setIfInBounds_toArray, List.set_cons_zero, List.set_cons_succ]
              refine wpAnyG_take0 (i := 18) (v := .pointer (some ⟨bX, 0, none⟩)) rfl (by kernel_rfl) (by kernel_rfl) (by kernel_rfl) (fun _ _ _ h => h) (by decide) (.inl (by kernel_rfl)) (Or.inl ⟨by rfl, by intro w' _; go_simp⟩) ?_
              try simp only [Act.put, List.setIfInBounds_toArray, List.set_cons_zero, List.set_cons_succ]
              refine wpAnyG_take0 (i := 19) (v := .pointer (some ⟨bX, 1, none⟩)) rfl (by kernel_rfl) (by kernel_rfl) (by kernel_rfl) (fun _ _ _ h => h) (by decide) (.inl (by kernel_rfl)) (Or.inl ⟨by rfl, by intro w' _; go_simp⟩) ?_
              try simp only [Act.put, List.setIfInBounds_toArray, List.set_cons_zero, List.set_cons_succ]
              refine wpAnyG_ready (rs := [20]) (by kernel_rfl) (by simp) ?_
              refine AllG.cons rfl (fun K hK => ?_) AllG.nil
              go_simp
              refine hK.out _ _ (.inl (by kernel_rfl)) ?_
              try simp only [Act.put, List.setIfInBounds_toArray, List.set_cons_zero, List.set_cons_succ]
              refine wpAnyG_done (by kernel_rfl) ?_ _
              go_wp2
              go_roundw
              case rel =>
                have HN := grp_add (b := bX) (gs := gs) (r := ⟨g, cap, ringNodes nodes m k⟩) (eps := (ring nodes m k).map (·.ep) ++ [1]) (c := Ck.row 214 kPlace v12 (ring nodes m groups)) SF.out
                simp only [HL8.out, HL14.out] at HN
                exact ⟨k + 1, gs ++ [⟨g, cap, ringNodes nodes m k⟩], _, _, by go_num, by omega, by rw [ring_succ]; simp [HGS.out], by rw [HEP.out]; exact HN⟩
              case measure => simp [intOf]; omega
          · go_simp
            refine hK.out _ _ (.inr ⟨(X2.out.at 2 rfl 0 _ rfl).1, (X2.out.at 2 rfl 1 _ rfl).1⟩) ?_
            try simp only [Act.put, List.setIfInBounds_toArray, List.set_cons_zero, List.set_cons_succ]
            refine wpAnyG_ready (rs := [7]) (by kernel_rfl) (by simp) ?_
            refine AllG.cons rfl (fun K hK => ?_) AllG.nil
            go_simp
            refine hK.out _ _ (.inr ⟨(X21.out.at 3 rfl 0 _ rfl).1, (X21.out.at 3 rfl 1 _ rfl).1⟩) ?_
            try simp only [Act.put, List.setIfInBounds_toArray, List.set_cons_zero, List.set_cons_succ]
            refine wpAnyG_ready (rs := [8]) (by kernel_rfl) (by simp) ?_
            refine AllG.cons rfl (fun K hK => ?_) AllG.nil
            refine appS_step rfl _ _ 62 _ 24 rfl Try.underlying62 info25 rfl (by decide) (X21.out.front 4 _ rfl) rfl rfl X21.out.row_rd HL1.out ?_
            intro v8 w8 h8 _ _
            obtain ⟨A8, c8, hv8, _⟩ := rd_slice h8.row_rd
            subst hv8
            have SC := hid h8
            clear h8
            refine hK.out _ _ (.inr ⟨(SC.out.at 4 rfl 0 _ rfl).1, (SC.out.at 4 rfl 1 _ rfl).1⟩) ?_
            try simp only [Act.put, List.setIfInBounds_toArray, List.set_cons_zero, List.set_cons_succ]
            refine wpAnyG_ready (rs := [14]) (by kernel_rfl) (by simp) ?_
            refine AllG.cons rfl (fun K hK => ?_) AllG.nil
            refine appS_step rfl _ _ 25 _ 8 rfl Try.underlying25 info3 rfl (by decide) (SC.out.front 5 _ rfl) rfl rfl (SC.out.front 2 _ rfl).row_rd HL2.out ?_
            intro v14 w14 h14 _ _
            obtain ⟨A14, c14, hv14, _⟩ := rd_slice h14.row_rd
            subst hv14
            have SF := hid (h14.perm [1, 0, 4, 5, 6] 7 (by decide) (by decide) (by simp))
            clear h14
            have e04 := SF.out.at 3 rfl 0 _ rfl
            have e14 := SF.out.at 3 rfl 1 _ rfl
            refine hK.out _ _ (.inr ⟨e04.1, e14.1⟩) ?_
            try simp only [Act.put, List.setIfInBounds_toArray, List.set_cons_zero, List.set_cons_succ]
            refine wpAnyG_take0 (i := 15) (v := .pointer (some ⟨bX, 0, none⟩)) rfl (by kernel_rfl) (by kernel_rfl) (by kernel_rfl) (fun _ _ _ h => h) (by decide) (.inr ⟨e04.1, e14.1⟩) (Or.inl ⟨by rfl, by intro w' _; go_simp⟩) ?_
            try simp only [Act.put, List.setIfInBounds_toArray, List.set_cons_zero, List.set_cons_succ]
            refine wpAnyG_take0 (i := 16) (v := .pointer (some ⟨bX, 0, none⟩)) rfl (by kernel_rfl) (by kernel_rfl) (by kernel_rfl) (fun _ _ _ h => h) (by decide) (.inr ⟨e04.1, e14.1⟩) (Or.inl ⟨by rfl, by intro w' _; go_simp⟩) ?_
            try simp only [Act.put, List.setIfInBounds_toArray, List.set_cons_zero, List.set_cons_succ]
            refine wpAnyG_ready (rs := [17]) (by kernel_rfl) (by simp) ?_
            refine AllG.cons rfl (fun K hK => ?_) AllG.nil
            go_simp
            refine hK.out _ _ (.inl (by kernel_rfl)) ?_
            try simp only [Act.put, List.setIfInBounds_toArray, List.set_cons_zero, List.set_cons_succ]
            refine wpAnyG_take0 (i := 18) (v := .pointer (some ⟨bX, 0, none⟩)) rfl (by kernel_rfl) (by kernel_rfl) (by kernel_rfl) (fun _ _ _ h => h) (by decide) (.inl (by kernel_rfl)) (Or.inl ⟨by rfl, by intro w' _; go_simp⟩) ?_
            try simp only [Act.put, List.setIfInBounds_toArray, List.set_cons_zero, List.set_cons_succ]
            refine wpAnyG_take0 (i := 19) (v := .pointer (some ⟨bX, 1, none⟩)) rfl (by kernel_rfl) (by kernel_rfl) (by kernel_rfl) (fun _ _ _ h => h) (by decide) (.inl (by kernel_rfl)) (Or.inl ⟨by rfl, by intro w' _; go_simp⟩) ?_
            try simp only [Act.put, List.setIfInBounds_toArray, List.set_cons_zero, List.set_cons_succ]
            refine wpAnyG_ready (rs := [20]) (by kernel_rfl) (by simp) ?_
            refine AllG.cons rfl (fun K hK => ?_) AllG.nil
            go_simp
            refine hK.out _ _ (.inl (by kernel_rfl)) ?_
            try simp only [Act.put, List.setIfInBounds_toArray, List.set_cons_zero, List.set_cons_succ]
            refine wpAnyG_done (by kernel_rfl) ?_ _
            go_wp2
            go_roundw
            case rel =>
              have HN := grp_add (b := bX) (gs := gs) (r := ⟨g, cap, ringNodes nodes m k⟩) (eps := (ring nodes m k).map (·.ep) ++ [1]) (c := Ck.row 214 kPlace v12 (ring nodes m groups)) SF.out
              simp only [HL8.out, HL14.out] at HN
              exact ⟨k + 1, gs ++ [⟨g, cap, ringNodes nodes m k⟩], _, _, by go_num, by omega, by rw [ring_succ]; simp [HGS.out], by rw [HEP.out]; exact HN⟩
            case measure => simp [intOf]; omega
    · obtain rfl : k = groups := by omega
      go_wp2
      exact HRR.out _ _ _ _ _ _ _ _ _ _ _ _ _ _ _ _ _ _ _ _ _ _ _ _ _ _ _ _ _ _ _ _ _ _ _ _ _ _ _ _ _ ⟨gs, vN, vE, HGS.out, HS.out⟩
end Go.Proofs.Ytihfikepfhcboaa
