/-
  Walks: moved17: which groups a wish meets.
-/
import Derived.Test.YtihfikepfhcboaaP7
import Derived.Test.YtihfikepfhcboaaR2
namespace Go.Proofs.Ytihfikepfhcboaa
open Go.RowKit Go.Maps

set_option maxHeartbeats 8000000 in
set_option maxRecDepth 100000 in
theorem blk6 {u0 u1 u2 u3 u4 u5 u6 u7 u8 u9 u10 u11 u12 u13 u15 u16 u17 u18 u19 u20 u25 u26 u27 u28 u29 u30 u31 u32 u33 u34 u35 u36 u37 u38 u39 u40 u41 u42 u43 u44 u45 u46 u47 u48 u49 u50 u51 u52 u53 u54 u55 u56 u57 u58 u59 u60 u61 u62 u63 u64 u65 u66 u67 u68 u69 u70 u71 u72 u73 u74 u75 u76 u77 u78 u79 u80 u81 u82 u83 u84 u85 u86 u87 u88 u89 u90 u91 u92 u93 u94 u95 u96 u97 u98 u99 u100 u101 u102 u103 u104 u105 u106 u107 u108 u109 u110 u111 u112 u113 u114 u115 u116 u117 u118 u119 u120 u121 u122 u123 u124 u125 u128 u129 u130 u131 u132 u133 u134 u135 u136 u137 u138 u139 u140 u141 u142 u143 u144 u145 u146 u147 u148 u149 u150 u151 u152 u153 u154 u155 u156 u157 u158 u159 u160 u161 u162 u163 u164 u165 u166 u167 u168 u169 u170 u171 u172 u173 u174 u175 u176 u177 u178 u179 u180 u181 u182 u183 u184 u185 u186 u187 u188 u189 u190 u191 u192 u193 u194 u195 u196 u197 u198 u199 u200 u201 u202 u203 u204 u205 u206 u207 u208 u209 u210 u211 u212 u213 u214 u215 u216 u217 u218 u219 u220 u221 u222 u223 u224 u225 u226 u227 u228 u229 u230 u231 u232 u233 u234 u235 u236 u237 u238 u239 u240 u241 u242 u243 u244 u245 u246 u247 u248 u249 u250 u251 u252 u253 u254 u255 u256 u257 u258 u259 u260 u261 u262 u263 u264 u265 u266 u267 u268 u269 u270 u271 u272 u273 u274 u275 u276 u277 u278 u279 u280 u281 u282 u283 u284 u285 u286 u287 u288 u289 u290 u291 u292 u293 u294 u295 u296 u297 u298 u299 u300 u301 u302 u303 u304 u305 u306 u307 u308 u309 u310 u311 u312 u313 u314 u315 u316 u317 u318 u319 u320 u321 u322 u323 u324 u325 u326 u327 u328 u329 u330 u331 u332 u333 u334 u335 u336 u337 u338 u339 : Value} {RR : Act → World → Prop} (l : List Place) (gs : List Grp) (frm tt : Int) (b0 : Bool) (bX : Nat) (AN : Option Addr) (cN : Nat) (vE v12 : Value) (k0 : Ck) (w0 : World) (B : Nat) (w : World)
    (hgs : gs.map (·.xs) = l.map (·.nodes)) (hl : l.length ≤ 1000) (hb0 : b0 = (frm == tt))
    (S : Star (k0 :: Ck.blk bX [.slice AN l.length cN, vE] 64 :: Ck.row 25 kDsc (.slice AN l.length cN) (gs.map Grp.dsc) :: Ck.row 3 (.int .i64) vE (l.map (·.ep)) :: Ck.row 214 kPlace v12 l :: gs.map Grp.ck) w0 B w)
    (hRR : ∀ (z23 z25 z127 z128 z129 z130 z131 z132 z133 z134 z135 z136 z137 z138 z139 z140 z141 z142 z143 z144 z145 z146 z147 : Value) (w' : World), Hid (Star (Ck.row 3 (.int .i64) z23 (grs frm l) :: k0 :: Ck.blk bX [.slice AN l.length cN, vE] 64 :: Ck.row 25 kDsc (.slice AN l.length cN) (gs.map Grp.dsc) :: Ck.row 3 (.int .i64) vE (l.map (·.ep)) :: Ck.row 214 kPlace v12 l :: gs.map Grp.ck) w0 B w') → RR ⟨(u0 :: u1 :: u2 :: u3 :: u4 :: u5 :: u6 :: u7 :: u8 :: u9 :: u10 :: u11 :: u12 :: u13 :: .pointer (some ⟨bX, 0, none⟩) :: u15 :: u16 :: u17 :: u18 :: u19 :: u20 :: .int .i64 frm :: .int .i64 tt :: z23 :: .bool (clash frm tt l) :: z25 :: u26 :: u27 :: u28 :: u29 :: u30 :: u31 :: u32 :: u33 :: u34 :: u35 :: u36 :: u37 :: u38 :: u39 :: u40 :: u41 :: u42 :: u43 :: u44 :: u45 :: u46 :: u47 :: u48 :: u49 :: u50 :: u51 :: u52 :: u53 :: u54 :: u55 :: u56 :: u57 :: u58 :: u59 :: u60 :: u61 :: u62 :: u63 :: u64 :: u65 :: u66 :: u67 :: u68 :: u69 :: u70 :: u71 :: u72 :: u73 :: u74 :: u75 :: u76 :: u77 :: u78 :: u79 :: u80 :: u81 :: u82 :: u83 :: u84 :: u85 :: u86 :: u87 :: u88 :: u89 :: u90 :: u91 :: u92 :: u93 :: u94 :: u95 :: u96 :: u97 :: u98 :: u99 :: u100 :: u101 :: u102 :: u103 :: u104 :: u105 :: u106 :: u107 :: u108 :: u109 :: u110 :: u111 :: u112 :: u113 :: u114 :: u115 :: u116 :: u117 :: u118 :: u119 :: u120 :: u121 :: u122 :: u123 :: u124 :: u125 :: .int .i64 (l.length : Nat) :: z127 :: z128 :: z129 :: z130 :: z131 :: z132 :: z133 :: z134 :: z135 :: z136 :: z137 :: z138 :: z139 :: z140 :: z141 :: z142 :: z143 :: z144 :: z145 :: z146 :: z147 :: u148 :: u149 :: u150 :: u151 :: u152 :: u153 :: u154 :: u155 :: u156 :: u157 :: u158 :: u159 :: u160 :: u161 :: u162 :: u163 :: u164 :: u165 :: u166 :: u167 :: u168 :: u169 :: u170 :: u171 :: u172 :: u173 :: u174 :: u175 :: u176 :: u177 :: u178 :: u179 :: u180 :: u181 :: u182 :: u183 :: u184 :: u185 :: u186 :: u187 :: u188 :: u189 :: u190 :: u191 :: u192 :: u193 :: u194 :: u195 :: u196 :: u197 :: u198 :: u199 :: u200 :: u201 :: u202 :: u203 :: u204 :: u205 :: u206 :: u207 :: u208 :: u209 :: u210 :: u211 :: u212 :: u213 :: u214 :: u215 :: u216 :: u217 :: u218 :: u219 :: u220 :: u221 :: u222 :: u223 :: u224 :: u225 :: u226 :: u227 :: u228 :: u229 :: u230 :: u231 :: u232 :: u233 :: u234 :: u235 :: u236 :: u237 :: u238 :: u239 :: u240 :: u241 :: u242 :: u243 :: u244 :: u245 :: u246 :: u247 :: u248 :: u249 :: u250 :: u251 :: u252 :: u253 :: u254 :: u255 :: u256 :: u257 :: u258 :: u259 :: u260 :: u261 :: u262 :: u263 :: u264 :: u265 :: u266 :: u267 :: u268 :: u269 :: u270 :: u271 :: u272 :: u273 :: u274 :: u275 :: u276 :: u277 :: u278 :: u279 :: u280 :: u281 :: u282 :: u283 :: u284 :: u285 :: u286 :: u287 :: u288 :: u289 :: u290 :: u291 :: u292 :: u293 :: u294 :: u295 :: u296 :: u297 :: u298 :: u299 :: u300 :: u301 :: u302 :: u303 :: u304 :: u305 :: u306 :: u307 :: u308 :: u309 :: u310 :: u311 :: u312 :: u313 :: u314 :: u315 :: u316 :: u317 :: u318 :: u319 :: u320 :: u321 :: u322 :: u323 :: u324 :: u325 :: u326 :: u327 :: u328 :: u329 :: u330 :: u331 :: u332 :: u333 :: u334 :: u335 :: u336 :: u337 :: u338 :: u339 :: []).toArray, []⟩ w') :
    (blkOf 6 (bodyOf Try.f9)).wp Try.prog (Ends RR)
      ⟨(u0 :: u1 :: u2 :: u3 :: u4 :: u5 :: u6 :: u7 :: u8 :: u9 :: u10 :: u11 :: u12 :: u13 :: .pointer (some ⟨bX, 0, none⟩) :: u15 :: u16 :: u17 :: u18 :: u19 :: u20 :: .int .i64 frm :: .int .i64 tt :: .slice none 0 0 :: .bool b0 :: u25 :: u26 :: u27 :: u28 :: u29 :: u30 :: u31 :: u32 :: u33 :: u34 :: u35 :: u36 :: u37 :: u38 :: u39 :: u40 :: u41 :: u42 :: u43 :: u44 :: u45 :: u46 :: u47 :: u48 :: u49 :: u50 :: u51 :: u52 :: u53 :: u54 :: u55 :: u56 :: u57 :: u58 :: u59 :: u60 :: u61 :: u62 :: u63 :: u64 :: u65 :: u66 :: u67 :: u68 :: u69 :: u70 :: u71 :: u72 :: u73 :: u74 :: u75 :: u76 :: u77 :: u78 :: u79 :: u80 :: u81 :: u82 :: u83 :: u84 :: u85 :: u86 :: u87 :: u88 :: u89 :: u90 :: u91 :: u92 :: u93 :: u94 :: u95 :: u96 :: u97 :: u98 :: u99 :: u100 :: u101 :: u102 :: u103 :: u104 :: u105 :: u106 :: u107 :: u108 :: u109 :: u110 :: u111 :: u112 :: u113 :: u114 :: u115 :: u116 :: u117 :: u118 :: u119 :: u120 :: u121 :: u122 :: u123 :: u124 :: u125 :: .int .i64 (l.length : Nat) :: .int .i64 0 :: u128 :: u129 :: u130 :: u131 :: u132 :: u133 :: u134 :: u135 :: u136 :: u137 :: u138 :: u139 :: u140 :: u141 :: u142 :: u143 :: u144 :: u145 :: u146 :: u147 :: u148 :: u149 :: u150 :: u151 :: u152 :: u153 :: u154 :: u155 :: u156 :: u157 :: u158 :: u159 :: u160 :: u161 :: u162 :: u163 :: u164 :: u165 :: u166 :: u167 :: u168 :: u169 :: u170 :: u171 :: u172 :: u173 :: u174 :: u175 :: u176 :: u177 :: u178 :: u179 :: u180 :: u181 :: u182 :: u183 :: u184 :: u185 :: u186 :: u187 :: u188 :: u189 :: u190 :: u191 :: u192 :: u193 :: u194 :: u195 :: u196 :: u197 :: u198 :: u199 :: u200 :: u201 :: u202 :: u203 :: u204 :: u205 :: u206 :: u207 :: u208 :: u209 :: u210 :: u211 :: u212 :: u213 :: u214 :: u215 :: u216 :: u217 :: u218 :: u219 :: u220 :: u221 :: u222 :: u223 :: u224 :: u225 :: u226 :: u227 :: u228 :: u229 :: u230 :: u231 :: u232 :: u233 :: u234 :: u235 :: u236 :: u237 :: u238 :: u239 :: u240 :: u241 :: u242 :: u243 :: u244 :: u245 :: u246 :: u247 :: u248 :: u249 :: u250 :: u251 :: u252 :: u253 :: u254 :: u255 :: u256 :: u257 :: u258 :: u259 :: u260 :: u261 :: u262 :: u263 :: u264 :: u265 :: u266 :: u267 :: u268 :: u269 :: u270 :: u271 :: u272 :: u273 :: u274 :: u275 :: u276 :: u277 :: u278 :: u279 :: u280 :: u281 :: u282 :: u283 :: u284 :: u285 :: u286 :: u287 :: u288 :: u289 :: u290 :: u291 :: u292 :: u293 :: u294 :: u295 :: u296 :: u297 :: u298 :: u299 :: u300 :: u301 :: u302 :: u303 :: u304 :: u305 :: u306 :: u307 :: u308 :: u309 :: u310 :: u311 :: u312 :: u313 :: u314 :: u315 :: u316 :: u317 :: u318 :: u319 :: u320 :: u321 :: u322 :: u323 :: u324 :: u325 :: u326 :: u327 :: u328 :: u329 :: u330 :: u331 :: u332 :: u333 :: u334 :: u335 :: u336 :: u337 :: u338 :: u339 :: []).toArray, []⟩ w := by
  conv => arg 2; whnf
  have HRR := hid hRR
  clear hRR
  have HGS := hid hgs
  have S4 := hid (S.nilrow 3 (.int .i64))
  clear hgs S
  subst hb0
  go_wp2
  go_loopw [23, 24, 25, 127] (fun v23 v24 _ i wr' => ∃ q : Nat, i = .int .i64 q ∧ q ≤ l.length ∧ v24 = .bool (clash frm tt (l.take q)) ∧
    Hid (Star (Ck.row 3 (.int .i64) v23 (grs frm (l.take q)) :: k0 :: Ck.blk bX [.slice AN l.length cN, vE] 64 :: Ck.row 25 kDsc (.slice AN l.length cN) (gs.map Grp.dsc) :: Ck.row 3 (.int .i64) vE (l.map (·.ep)) :: Ck.row 214 kPlace v12 l :: gs.map Grp.ck) w0 B wr')) (fun _ _ _ i _ => l.length - (intOf i).toNat)
  case atStart => exact ⟨0, rfl, by omega, by simp [clash], S4.out⟩
  case round =>
    clear S4
    obtain ⟨q, rfl, hq, rfl, HS⟩ := hrel
    by_cases hlq : q < l.length
    · have HX := hid (mem_seats HGS.out HS.out.tail.tail)
      have HH : Hid (∀ (x : Int) (w' : World), kSeats.rd w' (seatsOf l) [.pointer (some ⟨bX, 0, none⟩)] → Calls Try.prog 26 #[.pointer (some ⟨bX, 0, none⟩), .int .i64 q, .int .i64 x] w' (RetW (.int .i64 (idx x l[q].nodes 0)) w')) := fun x w' hh => by
        have := has_any (seatsOf l) _ q x w' hh (by simp [seatsOf, hlq])
        have hn : (seatsOf l).nodes[q]'(by simp [seatsOf, hlq]) = l[q].nodes := by simp [seatsOf]
        rwa [hn] at this
      have HTc : Hid (clash frm tt (l.take (q + 1)) = (clash frm tt (l.take q) || (decide (frm ∈ l[q].nodes) && decide (tt ∈ l[q].nodes)))) := by show _ = _; rw [take_snoc hlq, clash_snoc]
      by_cases hf : frm ∈ l[q].nodes
      · obtain ⟨i, hi, _⟩ := idx_mem0 hf
        have HF1 : Hid (∀ (w' : World), kSeats.rd w' (seatsOf l) [.pointer (some ⟨bX, 0, none⟩)] → Calls Try.prog 26 #[.pointer (some ⟨bX, 0, none⟩), .int .i64 q, .int .i64 frm] w' (RetW (.int .i64 (i : Nat)) w')) := fun w' hh => hi ▸ HH.out frm w' hh
        have HG : Hid (grs frm (l.take (q + 1)) = grs frm (l.take q) ++ [(q : Int)]) := by show _ = _; rw [take_snoc hlq, grs_snoc, if_pos hf]; simp; omega
        have hgl2 := grs_len frm (l.take q)
        have HL1 : Hid (((grs frm (l.take q)).length + 1) * 8 ≤ 140737488355328) := by show _ ≤ _; rw [List.length_take] at hgl2; omega
        have HP := hid (HS.out.inn1 .i64 (q : Int))
        have eb1 : decide ((i : Int) ≥ 0) = true := by simp
        rw [decide_eq_true hf, Bool.true_and] at HTc
        clear hf hi hgl2
        rcases hc : clash frm tt (l.take q) with _ | _
        · rw [hc, Bool.false_or] at HTc
          by_cases ht : tt ∈ l[q].nodes
          · obtain ⟨i2, hi2, _⟩ := idx_mem0 ht
            have HF2 : Hid (∀ (w' : World), kSeats.rd w' (seatsOf l) [.pointer (some ⟨bX, 0, none⟩)] → Calls Try.prog 26 #[.pointer (some ⟨bX, 0, none⟩), .int .i64 q, .int .i64 tt] w' (RetW (.int .i64 (i2 : Nat)) w')) := fun w' hh => hi2 ▸ HH.out tt w' hh
            have eb2 : decide ((i2 : Int) ≥ 0) = true := by simp
            rw [decide_eq_true ht] at HTc
            clear ht hi2
            go_wp2_with (first
              | (go_at_call 26; (with_reducible show Calls Try.prog 26 #[_, _, Value.int .i64 frm] _ _); refine (HF1.out _ HX.out).mono ?_; rintro e w3 ⟨rfl, rfl⟩)
              | (at_builtin; refine app1 rfl _ _ 25 _ 8 rfl Try.underlying25 info3 rfl (by decide) (by decide) HP.out rfl rfl HL1.out ?_; intro v' w3 h6 _; have HN := hid h6; clear h6)
              | (go_at_call 26; (with_reducible show Calls Try.prog 26 #[_, _, Value.int .i64 tt] _ _); refine (HF2.out _ (mem_seats HGS.out HN.out.tail.tail)).mono ?_; rintro e w4 ⟨rfl, rfl⟩))
            go_roundw
            case rel => exact ⟨q + 1, by go_num, by omega, by rw [HTc.out], by rw [HG.out]; exact HN.out⟩
            case measure => simp [intOf]; omega
          · have hi2 := idx_of_not (k := 0) ht
            have HF2 : Hid (∀ (w' : World), kSeats.rd w' (seatsOf l) [.pointer (some ⟨bX, 0, none⟩)] → Calls Try.prog 26 #[.pointer (some ⟨bX, 0, none⟩), .int .i64 q, .int .i64 tt] w' (RetW (.int .i64 (-1)) w')) := fun w' hh => hi2 ▸ HH.out tt w' hh
            rw [decide_eq_false ht] at HTc
            clear ht hi2
            go_wp2_with (first
              | (go_at_call 26; (with_reducible show Calls Try.prog 26 #[_, _, Value.int .i64 frm] _ _); refine (HF1.out _ HX.out).mono ?_; rintro e w3 ⟨rfl, rfl⟩)
              | (at_builtin; refine app1 rfl _ _ 25 _ 8 rfl Try.underlying25 info3 rfl (by decide) (by decide) HP.out rfl rfl HL1.out ?_; intro v' w3 h6 _; have HN := hid h6; clear h6)
              | (go_at_call 26; (with_reducible show Calls Try.prog 26 #[_, _, Value.int .i64 tt] _ _); refine (HF2.out _ (mem_seats HGS.out HN.out.tail.tail)).mono ?_; rintro e w4 ⟨rfl, rfl⟩))
            go_roundw
            case rel => exact ⟨q + 1, by go_num, by omega, by rw [HTc.out], by rw [HG.out]; exact HN.out⟩
            case measure => simp [intOf]; omega
        · rw [hc, Bool.true_or] at HTc
          go_wp2_with (first
            | (go_at_call 26; refine (HF1.out _ HX.out).mono ?_; rintro e w3 ⟨rfl, rfl⟩)
            | (at_builtin; refine app1 rfl _ _ 25 _ 8 rfl Try.underlying25 info3 rfl (by decide) (by decide) HP.out rfl rfl HL1.out ?_; intro v' w3 h6 _; have HN := hid h6; clear h6))
          go_roundw
          case rel => exact ⟨q + 1, by go_num, by omega, by rw [HTc.out], by rw [HG.out]; exact HN.out⟩
          case measure => simp [intOf]; omega
      · have hi := idx_of_not (k := 0) hf
        have HF1 : Hid (∀ (w' : World), kSeats.rd w' (seatsOf l) [.pointer (some ⟨bX, 0, none⟩)] → Calls Try.prog 26 #[.pointer (some ⟨bX, 0, none⟩), .int .i64 q, .int .i64 frm] w' (RetW (.int .i64 (-1)) w')) := fun w' hh => hi ▸ HH.out frm w' hh
        have HG : Hid (grs frm (l.take (q + 1)) = grs frm (l.take q)) := by show _ = _; rw [take_snoc hlq, grs_snoc, if_neg hf]; simp
        rw [decide_eq_false hf, Bool.false_and, Bool.or_false] at HTc
        clear hf hi
        go_wp2_with (go_at_call 26; refine (HF1.out _ HX.out).mono ?_; rintro e w3 ⟨rfl, rfl⟩)
        go_roundw
        case rel => exact ⟨q + 1, by go_num, by omega, by rw [HTc.out], by rw [HG.out]; exact HS.out⟩
        case measure => simp [intOf]; omega
    · obtain rfl : q = l.length := by omega
      rw [List.take_length] at HS
      simp only [List.take_length]
      go_wp2
      exact HRR.out _ _ _ _ _ _ _ _ _ _ _ _ _ _ _ _ _ _ _ _ _ _ _ _ HS
end Go.Proofs.Ytihfikepfhcboaa
