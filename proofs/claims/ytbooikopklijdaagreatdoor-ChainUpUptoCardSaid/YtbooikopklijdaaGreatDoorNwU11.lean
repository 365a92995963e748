/- Bundle: NwXU4, NwFShelf, NwXUE, NwXU, NwXR, NwXW, NwXUW. -/
import Derived.Test.YtbooikopklijdaaGreatDoorNwU10
import Derived.Shelf.Small.Utf8
import Derived.Shelf.Small.Strs
import Derived.Shelf.Strings.Search1
import Derived.Shelf.Strings.Search2
import Derived.Shelf.Strings.Search3
import Derived.Shelf.Strings.Cut
import Derived.Shelf.LaysM
import Derived.Shelf.Strings.Shaped
import Derived.Shelf.Strings.Runes
import Derived.Shelf.Strings.IndexAny
import Derived.Shelf.Strings.AsciiSet
import Derived.Shelf.Strings.IndexAnyAll
import Derived.Shelf.Unicode.DecodeSlow
import Derived.Test.YtbooikopklijdaaGreatDoorProg
import Derived.Below
set_option linter.constructorNameAsVariable false
set_option linter.unusedVariables false
set_option linter.unusedSimpArgs false
set_option linter.unusedSectionVars false
section
/- printed by xg.py: seat F's functions, 4. -/
open Go Go.RowKit Go.Proofs
set_option linter.unusedVariables false
set_option maxRecDepth 100000
namespace Go.Proofs.Nw.X
open Go.Proofs.Nw.K
noncomputable def s268 (fu : Nat) (cf : CF) (a0 a1 : V) (h : H) (n : Id) (k : KV) : R :=
 jp (fun (s1 : VT [4]) h n =>
 pc s1 fun v3 s4 =>
 k v3 h n) fun kk2 =>
 evBin2 tbx .leq 21 (.i .i32 0) a1 fun v5 =>
 jp (fun (v6 : V) h n =>
 jp (fun (v8 : V) h n =>
 evPick v5 v8 (.b false) fun v10 =>
 brB v10 (
 evConv2 tbx mtab 21 5 a1 h n fun v11 h n =>
 cf 93 [a0, v11] h n fun v12 h n =>
 k v12 h n) (
 evBin2 tbx .eql 21 a1 (.i .i32 65533) fun v13 =>
 brB v13 (
 none) (
 cf 303 [a1] h n fun v14 h n =>
 evUn .not v14 fun v15 =>
 brB v15 (
 k (.i .i64 (-1)) h n) (
 jp (fun (s18 : VT [4]) h n =>
 pc s18 fun v21 s22 =>
 kk2 (v21, ()) h n) fun kk16 =>
 jp (lpC [0, 1, 7, 8, 9] (fun lo20 s19 h n =>
 pc s19 fun v23 s24 =>
 pc s24 fun v25 s26 =>
 pc s26 fun v27 s28 =>
 pc s28 fun v29 s30 =>
 pc s30 fun v31 s32 =>
 jp (fun (s33 : VT []) h n =>
 k (.i .i64 (-1)) h n) fun kk34 =>
 brB (.b true) (
 evBin2 tbx .sub 3 v31 v29 fun v35 =>
 evSlc tbx 9 v23 (some v35) none fun v36 =>
 evConv2 tbx mtab 21 9 v25 h n fun v37 h n =>
 cf 192 [v36, v37] h n fun v38 h n =>
 evBin2 tbx .geq 3 v38 (.i .i64 0) fun v39 =>
 brB v39 (
 evBin2 tbx .add 3 v31 v38 fun v40 =>
 evBin2 tbx .sub 3 v40 v29 fun v41 =>
 k v41 h n) (
 kk34 (()) h n)) (
 evIx tbx 9 v27 v29 fun v42 =>
 evBin2 tbx .sub 3 v29 (.i .i64 1) fun v43 =>
 evIx tbx 9 v27 v43 fun v44 =>
 jp (fun (s45 : VT []) h n =>
 kk34 (()) h n) fun kk46 =>
 lpC [0, 7, 8, 9, 14, 15] (fun lo48 s47 h n =>
 pc s47 fun v49 s50 =>
 pc s50 fun v51 s52 =>
 pc s52 fun v53 s54 =>
 pc s54 fun v55 s56 =>
 pc s56 fun v57 s58 =>
 pc s58 fun v59 s60 =>
 evLen tbx 9 v49 fun v61 =>
 evBin2 tbx .lss 3 v55 v61 fun v62 =>
 brB v62 (
 jp (fun (s63 : VT [0, 7, 8, 9, 14, 15]) h n =>
 pc s63 fun v65 s66 =>
 pc s66 fun v67 s68 =>
 pc s68 fun v69 s70 =>
 pc s70 fun v71 s72 =>
 pc s72 fun v73 s74 =>
 pc s74 fun v75 s76 =>
 evBin2 tbx .add 3 v71 (.i .i64 1) fun v77 =>
 lo48 (v65, v67, v69, v77, v73, v75, ()) h n) fun kk64 =>
 evIx tbx 9 v49 v55 fun v78 =>
 evBin2 tbx .eql 5 v78 v57 fun v79 =>
 jp (fun (v80 : V) h n =>
 jp (fun (v82 : V) h n =>
 jp (fun (v84 : V) h n =>
 jp (fun (v86 : V) h n =>
 jp (fun (v88 : V) h n =>
 jp (fun (v90 : V) h n =>
 evPick v79 v90 (.b false) fun v92 =>
 brB v92 (
 jp (fun (s93 : VT [8, 9]) h n =>
 pc s93 fun v95 s96 =>
 pc s96 fun v97 s98 =>
 evBin2 tbx .sub 3 v97 v95 fun v99 =>
 k v99 h n) fun kk94 =>
 lpC [0, 7, 8, 9, 14, 15, 16] (fun lo101 s100 h n =>
 pc s100 fun v102 s103 =>
 pc s103 fun v104 s105 =>
 pc s105 fun v106 s107 =>
 pc s107 fun v108 s109 =>
 pc s109 fun v110 s111 =>
 pc s111 fun v112 s113 =>
 pc s113 fun v114 s115 =>
 evLen tbx 9 v104 fun v116 =>
 evBin2 tbx .lss 3 v114 v116 fun v117 =>
 brB v117 (
 jp (fun (s118 : VT [0, 7, 8, 9, 14, 15, 16]) h n =>
 pc s118 fun v120 s121 =>
 pc s121 fun v122 s123 =>
 pc s123 fun v124 s125 =>
 pc s125 fun v126 s127 =>
 pc s127 fun v128 s129 =>
 pc s129 fun v130 s131 =>
 pc s131 fun v132 s133 =>
 evBin2 tbx .add 3 v132 (.i .i64 1) fun v134 =>
 lo101 (v120, v122, v124, v126, v128, v130, v134, ()) h n) fun kk119 =>
 evBin2 tbx .sub 3 v108 v114 fun v135 =>
 evIx tbx 9 v102 v135 fun v136 =>
 evBin2 tbx .sub 3 v106 v114 fun v137 =>
 evIx tbx 9 v104 v137 fun v138 =>
 evBin2 tbx .neq 5 v136 v138 fun v139 =>
 brB v139 (
 kk64 (v102, v104, v106, v108, v110, v112, ()) h n) (
 kk119 (v102, v104, v106, v108, v110, v112, v114, ()) h n)) (
 kk94 (v106, v108, ()) h n)) fu (v49, v51, v53, v55, v57, v59, (.i .i64 2), ()) h n) (
 kk64 (v49, v51, v53, v55, v57, v59, ()) h n)) fun kk91 =>
 gdB v79 true ((evBin2 tbx .eql 5 v86 v88 fun v => kk91 v h n)) (kk91 (.tp []) h n)) fun kk89 =>
 gdB v79 true (kk89 v59 h n) (kk89 (.tp []) h n)) fun kk87 =>
 gdB v79 true ((evIx tbx 9 v80 v84 fun v => kk87 v h n)) (kk87 (.tp []) h n)) fun kk85 =>
 gdB v79 true ((evBin2 tbx .sub 3 v82 (.i .i64 1) fun v => kk85 v h n)) (kk85 (.tp []) h n)) fun kk83 =>
 gdB v79 true (kk83 v55 h n) (kk83 (.tp []) h n)) fun kk81 =>
 gdB v79 true (kk81 v49 h n) (kk81 (.tp []) h n)) (
 kk46 (()) h n)) fu (v23, v27, v29, v31, v42, v44, ()) h n)) fu) fun lo17 =>
 evConv2 tbx mtab 21 9 a1 h n fun v140 h n =>
 evLen tbx 9 v140 fun v141 =>
 evBin2 tbx .sub 3 v141 (.i .i64 1) fun v142 =>
 jp (fun (s143 : VT []) h n =>
 k (.i .i64 (-1)) h n) fun kk144 =>
 lpC [0, 1, 7, 8, 9, 10] (fun lo146 s145 h n =>
 pc s145 fun v147 s148 =>
 pc s148 fun v149 s150 =>
 pc s150 fun v151 s152 =>
 pc s152 fun v153 s154 =>
 pc s154 fun v155 s156 =>
 pc s156 fun v157 s158 =>
 evLen tbx 9 v147 fun v159 =>
 evBin2 tbx .lss 3 v155 v159 fun v160 =>
 brB v160 (
 jp (fun (s161 : VT [0, 1, 7, 8, 9, 10]) h n =>
 pc s161 fun v163 s164 =>
 pc s164 fun v165 s166 =>
 pc s166 fun v167 s168 =>
 pc s168 fun v169 s170 =>
 pc s170 fun v171 s172 =>
 pc s172 fun v173 s174 =>
 lo146 (v163, v165, v167, v169, v171, v173, ()) h n) fun kk162 =>
 jp (fun (s177 : VT [0, 1, 7, 8, 9, 10]) h n =>
 pc s177 fun v180 s181 =>
 pc s181 fun v182 s183 =>
 pc s183 fun v184 s185 =>
 pc s185 fun v186 s187 =>
 pc s187 fun v188 s189 =>
 pc s189 fun v190 s191 =>
 kk162 (v180, v182, v184, v186, v188, v190, ()) h n) fun kk175 =>
 jp (lpC [0, 1, 7, 8, 9, 10] (fun lo179 s178 h n =>
 pc s178 fun v192 s193 =>
 pc s193 fun v194 s195 =>
 pc s195 fun v196 s197 =>
 pc s197 fun v198 s199 =>
 pc s199 fun v200 s201 =>
 pc s201 fun v202 s203 =>
 evBin2 tbx .add 3 v202 (.i .i64 1) fun v204 =>
 evBin2 tbx .add 3 v200 (.i .i64 1) fun v205 =>
 jp (fun (v206 : V) h n =>
 jp (fun (v208 : V) h n =>
 jp (fun (v210 : V) h n =>
 jp (fun (v212 : V) h n =>
 evPick (.b true) v212 (.b false) fun v214 =>
 jp (fun (v215 : V) h n =>
 jp (fun (v217 : V) h n =>
 jp (fun (v219 : V) h n =>
 jp (fun (v221 : V) h n =>
 evPick v214 v221 (.b false) fun v223 =>
 jp (fun (v224 : V) h n =>
 jp (fun (v226 : V) h n =>
 jp (fun (v228 : V) h n =>
 jp (fun (v230 : V) h n =>
 jp (fun (v232 : V) h n =>
 jp (fun (v234 : V) h n =>
 jp (fun (v236 : V) h n =>
 jp (fun (v238 : V) h n =>
 jp (fun (v240 : V) h n =>
 jp (fun (v242 : V) h n =>
 jp (fun (v244 : V) h n =>
 jp (fun (v246 : V) h n =>
 jp (fun (v248 : V) h n =>
 evPick v223 (.b true) v248 fun v250 =>
 brB v250 (
 none) (
 kk175 (v192, v194, v196, v198, v205, v204, ()) h n)) fun kk249 =>
 gdB v223 false ((evPick v238 v246 (.b false) fun v => kk249 v h n)) (kk249 (.tp []) h n)) fun kk247 =>
 gdB v238 true ((evBin2 tbx .lss 3 v240 v244 fun v => kk247 v h n)) (kk247 (.tp []) h n)) fun kk245 =>
 gdB v238 true ((evLen tbx 9 v242 fun v => kk245 v h n)) (kk245 (.tp []) h n)) fun kk243 =>
 gdB v238 true (kk243 v192 h n) (kk243 (.tp []) h n)) fun kk241 =>
 gdB v238 true (kk241 v205 h n) (kk241 (.tp []) h n)) fun kk239 =>
 gdB v223 false (kk239 v236 h n) (kk239 (.tp []) h n)) fun kk237 =>
 gdB v223 false ((evPick v224 v234 (.b false) fun v => kk237 v h n)) (kk237 (.tp []) h n)) fun kk235 =>
 gdB v224 true ((evBin2 tbx .geq 3 v226 v232 fun v => kk235 v h n)) (kk235 (.tp []) h n)) fun kk233 =>
 gdB v224 true ((evBin2 tbx .add 3 (.i .i64 4) v230 fun v => kk233 v h n)) (kk233 (.tp []) h n)) fun kk231 =>
 gdB v224 true ((evBin2 tbx .shr 3 v228 (.i .u64 4) fun v => kk231 v h n)) (kk231 (.tp []) h n)) fun kk229 =>
 gdB v224 true (kk229 v205 h n) (kk229 (.tp []) h n)) fun kk227 =>
 gdB v224 true (kk227 v204 h n) (kk227 (.tp []) h n)) fun kk225 =>
 gdB v223 false (kk225 (.b false) h n) (kk225 (.tp []) h n)) fun kk222 =>
 gdB v214 true ((evBin2 tbx .lss 3 v215 v219 fun v => kk222 v h n)) (kk222 (.tp []) h n)) fun kk220 =>
 gdB v214 true ((evLen tbx 9 v217 fun v => kk220 v h n)) (kk220 (.tp []) h n)) fun kk218 =>
 gdB v214 true (kk218 v192 h n) (kk218 (.tp []) h n)) fun kk216 =>
 gdB v214 true (kk216 v205 h n) (kk216 (.tp []) h n)) fun kk213 =>
 gdB (.b true) true ((evBin2 tbx .gtr 3 v206 v210 fun v => kk213 v h n)) (kk213 (.tp []) h n)) fun kk211 =>
 gdB (.b true) true ((cf 193 [v208] h n kk211)) (kk211 (.tp []) h n)) fun kk209 =>
 gdB (.b true) true (kk209 v205 h n) (kk209 (.tp []) h n)) fun kk207 =>
 gdB (.b true) true (kk207 v204 h n) (kk207 (.tp []) h n)) fu) fun lo176 =>
 jp (fun (s251 : VT [0, 1, 7, 8, 9, 10]) h n =>
 pc s251 fun v253 s254 =>
 pc s254 fun v255 s256 =>
 pc s256 fun v257 s258 =>
 pc s258 fun v259 s260 =>
 pc s260 fun v261 s262 =>
 pc s262 fun v263 s264 =>
 jp (fun (s265 : VT [8, 9]) h n =>
 pc s265 fun v267 s268 =>
 pc s268 fun v269 s270 =>
 evBin2 tbx .sub 3 v269 v267 fun v271 =>
 k v271 h n) fun kk266 =>
 lpC [0, 1, 7, 8, 9, 10, 12] (fun lo273 s272 h n =>
 pc s272 fun v274 s275 =>
 pc s275 fun v276 s277 =>
 pc s277 fun v278 s279 =>
 pc s279 fun v280 s281 =>
 pc s281 fun v282 s283 =>
 pc s283 fun v284 s285 =>
 pc s285 fun v286 s287 =>
 evLen tbx 9 v278 fun v288 =>
 evBin2 tbx .lss 3 v286 v288 fun v289 =>
 brB v289 (
 jp (fun (s290 : VT [0, 1, 7, 8, 9, 10, 12]) h n =>
 pc s290 fun v292 s293 =>
 pc s293 fun v294 s295 =>
 pc s295 fun v296 s297 =>
 pc s297 fun v298 s299 =>
 pc s299 fun v300 s301 =>
 pc s301 fun v302 s303 =>
 pc s303 fun v304 s305 =>
 evBin2 tbx .add 3 v304 (.i .i64 1) fun v306 =>
 lo273 (v292, v294, v296, v298, v300, v302, v306, ()) h n) fun kk291 =>
 evBin2 tbx .sub 3 v282 v286 fun v307 =>
 evIx tbx 9 v274 v307 fun v308 =>
 evBin2 tbx .sub 3 v280 v286 fun v309 =>
 evIx tbx 9 v278 v309 fun v310 =>
 evBin2 tbx .neq 5 v308 v310 fun v311 =>
 brB v311 (
 lo176 (v274, v276, v278, v280, v282, v284, ()) h n) (
 kk291 (v274, v276, v278, v280, v282, v284, v286, ()) h n)) (
 kk266 (v280, v282, ()) h n)) fu (v253, v255, v257, v259, v261, v263, (.i .i64 1), ()) h n) fun kk252 =>
 evIx tbx 9 v147 v155 fun v312 =>
 evIx tbx 9 v151 v153 fun v313 =>
 evBin2 tbx .neq 5 v312 v313 fun v314 =>
 brB v314 (
 evBin2 tbx .add 3 v155 (.i .i64 1) fun v315 =>
 evSlc tbx 9 v147 (some v315) none fun v316 =>
 evIx tbx 9 v151 v153 fun v317 =>
 cf 93 [v316, v317] h n fun v318 h n =>
 evBin2 tbx .lss 3 v318 (.i .i64 0) fun v319 =>
 brB v319 (
 k (.i .i64 (-1)) h n) (
 evBin2 tbx .add 3 v318 (.i .i64 1) fun v320 =>
 evBin2 tbx .add 3 v155 v320 fun v321 =>
 kk252 (v147, v149, v151, v153, v321, v157, ()) h n)) (
 kk252 (v147, v149, v151, v153, v155, v157, ()) h n)) (
 kk144 (()) h n)) fu (a0, a1, v140, v142, v142, (.i .i64 0), ()) h n)))) fun kk9 =>
 gdB v5 true ((evBin2 tbx .lss 21 v6 (.i .i32 128) fun v => kk9 v h n)) (kk9 (.tp []) h n)) fun kk7 =>
 gdB v5 true (kk7 a1 h n) (kk7 (.tp []) h n)
noncomputable def e268 : FE := ⟨Tryz.f268, bd Tryz.f268, [0, 1], [4], (.q .z (.b [4] (.q .z (.c (.q .z .z) (.q .z (.c (.q (.q .z (.b [] (.l [175] (.q .z (.q (.c .z .z) (.b [175] (.q .z (.q .z (.c (.q .z .z) .z))))))))) (.q .z .z)) (.q .z (.c (.q .z .z) (.g 1 [0, 1, 7, 8, 9] [4] (.q .z (.q .z (.q .z (.q .z (.q (.b [] (.l [0, 1, 7, 8, 9, 10] (.q (.q .z (.c .z .z)) (.b [0, 1, 7, 8, 9, 10] (.g 0 [0, 1, 7, 8, 9, 10] [0, 1, 7, 8, 9, 10] (.s [0, 1, 7, 8, 9, 10] (.q .z (.c (.q .z (.q (.q .z (.c (.q .z .z) .z)) .z)) .z)) (.q (.q .z (.b [8, 9] (.l [0, 1, 7, 8, 9, 10, 12] (.q (.q .z (.c .z .z)) (.q (.b [0, 1, 7, 8, 9, 10, 12] (.q .z (.c .z .z))) .z))))) (.q (.q .z .z) (.q .z (.q .z (.q .z (.q .z (.c .z .z)))))))) (.q .z (.q .z (.q .z (.q .z (.c .z .z)))))))))) (.q (.q .z .z) (.q .z (.s [] (.c (.q .z (.q .z (.c (.q .z .z) .z))) (.o (.q .z (.q .z (.q .z (.b [] (.l [0, 7, 8, 9, 14, 15] (.q (.q .z (.c .z .z)) (.q (.b [0, 7, 8, 9, 14, 15] (.q .z (.c (.q (.q .z (.b [8, 9] (.l [0, 7, 8, 9, 14, 15, 16] (.q (.q .z (.c .z .z)) (.q (.b [0, 7, 8, 9, 14, 15, 16] (.q .z (.c .z .z))) .z))))) (.q .z .z)) .z))) .z))))))))) (.q .z .z))))))))) (.q .z (.s [] (.c (.q .z (.q .z (.c (.q .z .z) .z))) (.o (.q .z (.q .z (.q .z (.b [] (.l [0, 7, 8, 9, 14, 15] (.q (.q .z (.c .z .z)) (.q (.b [0, 7, 8, 9, 14, 15] (.q .z (.c (.q (.q .z (.b [8, 9] (.l [0, 7, 8, 9, 14, 15, 16] (.q (.q .z (.c .z .z)) (.q (.b [0, 7, 8, 9, 14, 15, 16] (.q .z (.c .z .z))) .z))))) (.q .z .z)) .z))) .z))))))))) (.q .z .z))))))))))))⟩
theorem q268 (fu : Nat) (cf : CF) (a0 a1 : V) (h : H) (n : Id) (k : KV) : evF fu cf e268 [a0, a1] h n k = s268 fu cf a0 a1 h n k := by kernel_rfl
theorem p268 : PfOk Tryz.prog tbx mtab 268 (w2 (s268 fuX)) := pfo e268 Tryz.func268 (by kernel_rfl) (w2_ok (q268 fuX))
noncomputable def s270 (fu : Nat) (cf : CF) (a0 a1 : V) (h : H) (n : Id) (k : KV) : R :=
 evNc' a0 fun v1 =>
 evIa tbx 293 v1 a1 fun v2 =>
 evLoad tbx 4 v2 h fun v3 =>
 k v3 h n
noncomputable def e270 : FE := ⟨Tryz.f270, bd Tryz.f270, [0, 1], [4], (.q .z (.q .z .z))⟩
theorem q270 (fu : Nat) (cf : CF) (a0 a1 : V) (h : H) (n : Id) (k : KV) : evF fu cf e270 [a0, a1] h n k = s270 fu cf a0 a1 h n k := by kernel_rfl
theorem p270 : PfOk Tryz.prog tbx mtab 270 (w2 (s270 fuX)) := pfo e270 Tryz.func270 (by kernel_rfl) (w2_ok (q270 fuX))
noncomputable def s271 (fu : Nat) (cf : CF) (a0 a1 : V) (h : H) (n : Id) (k : KV) : R :=
 cf 138 [a0, a1] h n fun v1 h n =>
 evBin2 tbx .geq 3 v1 (.i .i64 0) fun v2 =>
 brB v2 (
 evSlc tbx 9 a0 none (some v1) fun v3 =>
 evLen tbx 9 a1 fun v4 =>
 evBin2 tbx .add 3 v1 v4 fun v5 =>
 evSlc tbx 9 a0 (some v5) none fun v6 =>
 k (.tp [v3, v6, (.b true)]) h n) (
 k (.tp [a0, (.s 0 0), (.b false)]) h n)
noncomputable def e271 : FE := ⟨Tryz.f271, bd Tryz.f271, [0, 1], [4, 5, 6], (.q .z (.q (.q .z (.q .z (.c (.q .z .z) .z))) (.q .z .z)))⟩
theorem q271 (fu : Nat) (cf : CF) (a0 a1 : V) (h : H) (n : Id) (k : KV) : evF fu cf e271 [a0, a1] h n k = s271 fu cf a0 a1 h n k := by kernel_rfl
theorem p271 : PfOk Tryz.prog tbx mtab 271 (w2 (s271 fuX)) := pfo e271 Tryz.func271 (by kernel_rfl) (w2_ok (q271 fuX))
noncomputable def s285 (fu : Nat) (cf : CF) (a0 : V) (h : H) (n : Id) (k : KV) : R :=
 evBin2 tbx .neq 9 a0 (.s 0 0) fun v1 =>
 jp (fun (v2 : V) h n =>
 jp (fun (v4 : V) h n =>
 jp (fun (v6 : V) h n =>
 evPick v1 v6 (.b false) fun v8 =>
 brB v8 (
 evIx tbx 9 a0 (.i .i64 0) fun v9 =>
 evConv2 tbx mtab 5 21 v9 h n fun v10 h n =>
 k (.tp [v10, (.i .i64 1)]) h n) (
 cf 308 [a0] h n fun v11 h n =>
 evExt 0 v11 fun v12 =>
 evExt 1 v11 fun v13 =>
 k (.tp [v12, v13]) h n)) fun kk7 =>
 gdB v1 true ((evBin2 tbx .lss 5 v4 (.i .u8 128) fun v => kk7 v h n)) (kk7 (.tp []) h n)) fun kk5 =>
 gdB v1 true ((evIx tbx 9 v2 (.i .i64 0) fun v => kk5 v h n)) (kk5 (.tp []) h n)) fun kk3 =>
 gdB v1 true (kk3 a0 h n) (kk3 (.tp []) h n)
noncomputable def e285 : FE := ⟨Tryz.f285, bd Tryz.f285, [0], [2, 3], (.q .z (.q (.q .z (.c (.q .z .z) .z)) .z))⟩
theorem q285 (fu : Nat) (cf : CF) (a0 : V) (h : H) (n : Id) (k : KV) : evF fu cf e285 [a0] h n k = s285 fu cf a0 h n k := by kernel_rfl
theorem p285 : PfOk Tryz.prog tbx mtab 285 (w1 (s285 fuX)) := pfo e285 Tryz.func285 (by kernel_rfl) (w1_ok (q285 fuX))
noncomputable def s287 (fu : Nat) (cf : CF) (a0 a1 : V) (h : H) (n : Id) (k : KV) : R :=
 evLen tbx 9 a0 fun v1 =>
 evLen tbx 9 a1 fun v2 =>
 evBin2 tbx .geq 3 v1 v2 fun v3 =>
 jp (fun (v4 : V) h n =>
 jp (fun (v6 : V) h n =>
 jp (fun (v8 : V) h n =>
 jp (fun (v10 : V) h n =>
 jp (fun (v12 : V) h n =>
 jp (fun (v14 : V) h n =>
 jp (fun (v16 : V) h n =>
 jp (fun (v18 : V) h n =>
 jp (fun (v20 : V) h n =>
 evPick v3 v20 (.b false) fun v22 =>
 k v22 h n) fun kk21 =>
 gdB v3 true ((evBin2 tbx .eql 9 v16 v18 fun v => kk21 v h n)) (kk21 (.tp []) h n)) fun kk19 =>
 gdB v3 true (kk19 a1 h n) (kk19 (.tp []) h n)) fun kk17 =>
 gdB v3 true ((evSlc tbx 9 v4 (some v14) none fun v => kk17 v h n)) (kk17 (.tp []) h n)) fun kk15 =>
 gdB v3 true ((evBin2 tbx .sub 3 v8 v12 fun v => kk15 v h n)) (kk15 (.tp []) h n)) fun kk13 =>
 gdB v3 true ((evLen tbx 9 v10 fun v => kk13 v h n)) (kk13 (.tp []) h n)) fun kk11 =>
 gdB v3 true (kk11 a1 h n) (kk11 (.tp []) h n)) fun kk9 =>
 gdB v3 true ((evLen tbx 9 v6 fun v => kk9 v h n)) (kk9 (.tp []) h n)) fun kk7 =>
 gdB v3 true (kk7 a0 h n) (kk7 (.tp []) h n)) fun kk5 =>
 gdB v3 true (kk5 a0 h n) (kk5 (.tp []) h n)
noncomputable def e287 : FE := ⟨Tryz.f287, bd Tryz.f287, [0, 1], [4], (.q .z (.q .z .z))⟩
theorem q287 (fu : Nat) (cf : CF) (a0 a1 : V) (h : H) (n : Id) (k : KV) : evF fu cf e287 [a0, a1] h n k = s287 fu cf a0 a1 h n k := by kernel_rfl
theorem p287 : PfOk Tryz.prog tbx mtab 287 (w2 (s287 fuX)) := pfo e287 Tryz.func287 (by kernel_rfl) (w2_ok (q287 fuX))
noncomputable def s289 (fu : Nat) (cf : CF) (a0 a1 : V) (h : H) (n : Id) (k : KV) : R :=
 evLen tbx 160 a0 fun v1 =>
 jp (fun (s2 : VT []) h n =>
 k (.i .i64 (-1)) h n) fun kk3 =>
 lpC [0, 1, 7, 8] (fun lo5 s4 h n =>
 pc s4 fun v6 s7 =>
 pc s7 fun v8 s9 =>
 pc s9 fun v10 s11 =>
 pc s11 fun v12 s13 =>
 evBin2 tbx .lss 3 v12 v10 fun v14 =>
 brB v14 (
 jp (fun (s15 : VT [0, 1, 7, 8]) h n =>
 pc s15 fun v17 s18 =>
 pc s18 fun v19 s20 =>
 pc s20 fun v21 s22 =>
 pc s22 fun v23 s24 =>
 evBin2 tbx .add 3 v23 (.i .i64 1) fun v25 =>
 lo5 (v17, v19, v21, v25, ()) h n) fun kk16 =>
 evIa tbx 160 v6 v12 fun v26 =>
 evLoad tbx 303 v26 h fun v27 =>
 evCall cf v8 [v27] h n fun v28 h n =>
 brB v28 (
 k v12 h n) (
 kk16 (v6, v8, v10, v12, ()) h n)) (
 kk3 (()) h n)) fu (a0, a1, v1, (.i .i64 0), ()) h n
noncomputable def e289 : FE := ⟨Tryz.f289, bd Tryz.f289, [0, 1], [4], (.q .z (.q (.q .z (.b [] (.l [0, 1, 7, 8] (.q .z (.q (.c .z .z) (.q (.b [0, 1, 7, 8] (.q .z (.q .z (.c (.q .z .z) .z)))) .z)))))) (.q .z .z)))⟩
theorem q289 (fu : Nat) (cf : CF) (a0 a1 : V) (h : H) (n : Id) (k : KV) : evF fu cf e289 [a0, a1] h n k = s289 fu cf a0 a1 h n k := by kernel_rfl
theorem p289 : PfOk Tryz.prog tbx mtab 289 (w2 (s289 fuX)) := pfo e289 Tryz.func289 (by kernel_rfl) (w2_ok (q289 fuX))
noncomputable def s291 (fu : Nat) (cf : CF) (a0 : V) (h : H) (n : Id) (k : KV) : R :=
 evBin2 tbx .geq 5 a0 (.i .u8 65) fun v1 =>
 jp (fun (v2 : V) h n =>
 jp (fun (v4 : V) h n =>
 evPick v1 v4 (.b false) fun v6 =>
 jp (fun (v7 : V) h n =>
 jp (fun (v9 : V) h n =>
 jp (fun (v11 : V) h n =>
 jp (fun (v13 : V) h n =>
 jp (fun (v15 : V) h n =>
 jp (fun (v17 : V) h n =>
 evPick v6 (.b true) v17 fun v19 =>
 jp (fun (v20 : V) h n =>
 jp (fun (v22 : V) h n =>
 evPick v19 (.b true) v22 fun v24 =>
 k v24 h n) fun kk23 =>
 gdB v19 false ((evBin2 tbx .eql 5 v20 (.i .u8 95) fun v => kk23 v h n)) (kk23 (.tp []) h n)) fun kk21 =>
 gdB v19 false (kk21 a0 h n) (kk21 (.tp []) h n)) fun kk18 =>
 gdB v6 false ((evPick v11 v15 (.b false) fun v => kk18 v h n)) (kk18 (.tp []) h n)) fun kk16 =>
 gdB v11 true ((evBin2 tbx .leq 5 v13 (.i .u8 122) fun v => kk16 v h n)) (kk16 (.tp []) h n)) fun kk14 =>
 gdB v11 true (kk14 a0 h n) (kk14 (.tp []) h n)) fun kk12 =>
 gdB v6 false (kk12 v9 h n) (kk12 (.tp []) h n)) fun kk10 =>
 gdB v6 false ((evBin2 tbx .geq 5 v7 (.i .u8 97) fun v => kk10 v h n)) (kk10 (.tp []) h n)) fun kk8 =>
 gdB v6 false (kk8 a0 h n) (kk8 (.tp []) h n)) fun kk5 =>
 gdB v1 true ((evBin2 tbx .leq 5 v2 (.i .u8 90) fun v => kk5 v h n)) (kk5 (.tp []) h n)) fun kk3 =>
 gdB v1 true (kk3 a0 h n) (kk3 (.tp []) h n)
noncomputable def e291 : FE := ⟨Tryz.f291, bd Tryz.f291, [0], [2], (.q .z (.q .z .z))⟩
theorem q291 (fu : Nat) (cf : CF) (a0 : V) (h : H) (n : Id) (k : KV) : evF fu cf e291 [a0] h n k = s291 fu cf a0 h n k := by kernel_rfl
theorem p291 : PfOk Tryz.prog tbx mtab 291 (w1 (s291 fuX)) := pfo e291 Tryz.func291 (by kernel_rfl) (w1_ok (q291 fuX))
noncomputable def s292 (fu : Nat) (cf : CF) (a0 : V) (h : H) (n : Id) (k : KV) : R :=
 cf 291 [a0] h n fun v1 h n =>
 jp (fun (v2 : V) h n =>
 jp (fun (v4 : V) h n =>
 evPick v1 (.b true) v4 fun v6 =>
 jp (fun (v7 : V) h n =>
 jp (fun (v9 : V) h n =>
 evPick v6 (.b true) v9 fun v11 =>
 jp (fun (v12 : V) h n =>
 jp (fun (v14 : V) h n =>
 evPick v11 (.b true) v14 fun v16 =>
 jp (fun (v17 : V) h n =>
 jp (fun (v19 : V) h n =>
 evPick v16 (.b true) v19 fun v21 =>
 k v21 h n) fun kk20 =>
 gdB v16 false ((evBin2 tbx .eql 5 v17 (.i .u8 58) fun v => kk20 v h n)) (kk20 (.tp []) h n)) fun kk18 =>
 gdB v16 false (kk18 a0 h n) (kk18 (.tp []) h n)) fun kk15 =>
 gdB v11 false ((evBin2 tbx .eql 5 v12 (.i .u8 46) fun v => kk15 v h n)) (kk15 (.tp []) h n)) fun kk13 =>
 gdB v11 false (kk13 a0 h n) (kk13 (.tp []) h n)) fun kk10 =>
 gdB v6 false ((evBin2 tbx .eql 5 v7 (.i .u8 45) fun v => kk10 v h n)) (kk10 (.tp []) h n)) fun kk8 =>
 gdB v6 false (kk8 a0 h n) (kk8 (.tp []) h n)) fun kk5 =>
 gdB v1 false ((cf 188 [v2] h n kk5)) (kk5 (.tp []) h n)) fun kk3 =>
 gdB v1 false (kk3 a0 h n) (kk3 (.tp []) h n)
noncomputable def e292 : FE := ⟨Tryz.f292, bd Tryz.f292, [0], [2], (.q .z (.q .z .z))⟩
theorem q292 (fu : Nat) (cf : CF) (a0 : V) (h : H) (n : Id) (k : KV) : evF fu cf e292 [a0] h n k = s292 fu cf a0 h n k := by kernel_rfl
theorem p292 : PfOk Tryz.prog tbx mtab 292 (w1 (s292 fuX)) := pfo e292 Tryz.func292 (by kernel_rfl) (w1_ok (q292 fuX))
noncomputable def s293 (fu : Nat) (cf : CF) (a0 : V) (h : H) (n : Id) (k : KV) : R :=
 evNc' a0 fun v1 =>
 evFa tbx 314 0 v1 fun v2 =>
 evLoad tbx 312 v2 h fun v3 =>
 evBin2 tbx .eql 312 v3 .np fun v4 =>
 brB v4 (
 evConv2 tbx mtab 312 361 a0 h n fun v5 h n =>
 cf 311 [v5] h n fun v6 h n =>
 evConv2 tbx mtab 361 312 v6 h n fun v7 h n =>
 evNc' a0 fun v8 =>
 evFa tbx 314 0 v8 fun v9 =>
 evStore tbx 312 v9 v7 h n fun _ h n =>
 k (.tp []) h n) (
 evNc' a0 fun v10 =>
 evFa tbx 314 0 v10 fun v11 =>
 evLoad tbx 312 v11 h fun v12 =>
 evBin2 tbx .neq 312 v12 a0 fun v13 =>
 brB v13 (
 none) (
 k (.tp []) h n))
noncomputable def e293 : FE := ⟨Tryz.f293, bd Tryz.f293, [0], [], (.q .z (.c .z (.q .z (.c .z .z))))⟩
theorem q293 (fu : Nat) (cf : CF) (a0 : V) (h : H) (n : Id) (k : KV) : evF fu cf e293 [a0] h n k = s293 fu cf a0 h n k := by kernel_rfl
theorem p293 : PfOk Tryz.prog tbx mtab 293 (w1 (s293 fuX)) := pfo e293 Tryz.func293 (by kernel_rfl) (w1_ok (q293 fuX))
end Go.Proofs.Nw.X
end
section
/-
  DERIVED: THE SHELF's CONTRACTS AT THIS DUMP, IN PLAIN WORDS (tools/lay-plain.mjs out of 'TryzShelf.lean', which tools/lay-shelf.mjs wrote): THE SAME DECLARATIONS UNDER THE SAME NAMES: 'import', 'namespace', 'open', 'def', 'theorem' AND NOTHING ELSE: no command of the shelf's: FOR A HAND-IN. Each laying: the table of numbers ('.._ren') and one theorem, a field a fact of the dump's own or the kernel's comparison; each contract: ONE APPLICATION.
-/
namespace Go.Proofs
open Go.Shelf
def Tryz.lays219_ren : Go.Shelf.Ren := ⟨fun | 219 => 138 | 217 => 137 | 225 => 192 | 224 => 193 | 267 => 194 | 266 => 191 | 314 => 241 | n => n, fun | 9 => 9 | 3 => 3 | 4 => 4 | 5 => 5 | 46 => 22 | 146 => 298 | 51 => 146 | n => n, fun | 1 => 0 | n => n⟩
theorem Tryz.lays219 : Go.Proofs.Lays.n219 Tryz.prog Tryz.lays219_ren := {
  mixed := by kernel_rfl
  f217 := Tryz.func137.trans (congrArg some (by kernel_rfl))
  f219 := Tryz.func138.trans (congrArg some (by kernel_rfl))
  f224 := Tryz.func193.trans (congrArg some (by kernel_rfl))
  f225 := Tryz.func192.trans (congrArg some (by kernel_rfl))
  f266 := Tryz.func191.trans (congrArg some (by kernel_rfl))
  f267 := Tryz.func194.trans (congrArg some (by kernel_rfl))
  f314 := Tryz.func241.trans (congrArg some (by kernel_rfl))
  t3 := Tryz.underlying3
  a3 := Tryz.isAgg3
  z3 := Tryz.sizeOf3
  v3 := Tryz.zeroValue3
  t4 := Tryz.underlying4
  a4 := Tryz.isAgg4
  z4 := Tryz.sizeOf4
  v4 := Tryz.zeroValue4
  t5 := Tryz.underlying5
  a5 := Tryz.isAgg5
  z5 := Tryz.sizeOf5
  v5 := Tryz.zeroValue5
  t9 := Tryz.underlying9
  a9 := Tryz.isAgg9
  z9 := Tryz.sizeOf9
  v9 := Tryz.zeroValue9
  t46 := Tryz.underlying22
  a46 := Tryz.isAgg22
  z46 := Tryz.sizeOf22
  v46 := Tryz.zeroValue22
  t51 := Tryz.underlying146
  a51 := Tryz.isAgg146
  z51 := Tryz.sizeOf146
  v51 := Tryz.zeroValue146
  t146 := Tryz.underlying298
  a146 := Tryz.isAgg298
  z146 := Tryz.sizeOf298
  v146 := Tryz.zeroValue298
  g1 := by kernel_rfl }
open Go.RowKit Go.Lib in
theorem Tryz.stringslite_Index (s sub : ByteArray) (m : Int) (w : World) (hs : s.size < 4294967281) (hm : w.cell? ⟨0, 0, none⟩ = some (.int .i64 m)) :
    Calls Tryz.prog 138 #[.string s, .string sub] w fun e w' => e = .returned (.int .i64 (Lib.index s.data.toList sub.data.toList)) ∧ w' = w := Any.stringslite_Index Tryz.lays219 s sub m w hs hm
end Go.Proofs
end
section
/- XGE: seat F's functions by contract. -/
open Go Go.RowKit Go.Proofs
set_option linter.unusedVariables false
set_option linter.unusedSimpArgs false
namespace Go.Proofs.Nw.X
open Go.Proofs.Nw.K
theorem sd191 : Sd Tryz.prog 191 gIx := sd_ix fun s c w => by
  rw [run_callFunc_extern Tryz.func191 (by kernel_rfl) (by kernel_rfl) (by kernel_rfl) (e := Extern.BytealgIndexByte.indexByte) (by kernel_rfl), Lib.run_indexByteString]; rfl
theorem sd311 : Sd Tryz.prog 311 gId := sd_id (tx_eiok (311, ()) (by show (311, ()) ∈ [(311, ())]; simp))
theorem sd138 : Sd Tryz.prog 138 gSi := sd_si (by kernel_rfl) fun s sub m w h1 h2 => Tryz.stringslite_Index s sub m w h1 h2
end Go.Proofs.Nw.X
end
section
/- printed by xg.py: seat F's evaluator. -/
open Go Go.RowKit Go.Proofs
set_option linter.unusedVariables false
set_option maxRecDepth 100000
namespace Go.Proofs.Nw.X
open Go.Proofs.Nw.K
noncomputable def fns : BT (CF → Fn1) := (.n 138 (fun _ => gSi) (.n 74 (w1 (s74 fuX)) (.n 40 (w2 (s40 fuX)) (.n 31 (w1 (s31 fuX)) (.n 18 (w1 (s18 fuX)) (.n 16 (w1 (s16 fuX)) (.n 15 (w1 (s15 fuX)) (.n 3 (w2 (s3 fuX)) .e .e) .e) (.n 17 (w4 (s17 fuX)) .e .e)) (.n 21 (w0 (s21 fuX)) (.n 20 (w2 (s20 fuX)) (.n 19 (w1 (s19 fuX)) .e .e) .e) (.n 22 (w2 (s22 fuX)) .e .e))) (.n 36 (w2 (s36 fuX)) (.n 34 (w1 (s34 fuX)) (.n 33 (w2 (s33 fuX)) (.n 32 (w2 (s32 fuX)) .e .e) .e) (.n 35 (w1 (s35 fuX)) .e .e)) (.n 38 (w1 (s38 fuX)) (.n 37 (w2 (s37 fuX)) .e .e) (.n 39 (w2 (s39 fuX)) .e .e)))) (.n 56 (w2 (s56 fuX)) (.n 51 (w1 (s51 fuX)) (.n 49 (w1 (s49 fuX)) (.n 42 (w1 (s42 fuX)) (.n 41 (w1 (s41 fuX)) .e .e) .e) (.n 50 (w1 (s50 fuX)) .e .e)) (.n 54 (w1 (s54 fuX)) (.n 53 (w5 (s53 fuX)) (.n 52 (w1 (s52 fuX)) .e .e) .e) (.n 55 (w1 (s55 fuX)) .e .e))) (.n 61 (w2 (s61 fuX)) (.n 59 (w1 (s59 fuX)) (.n 58 (w1 (s58 fuX)) (.n 57 (w2 (s57 fuX)) .e .e) .e) (.n 60 (w2 (s60 fuX)) .e .e)) (.n 63 (w1 (s63 fuX)) (.n 62 (w1 (s62 fuX)) .e .e) (.n 73 (w1 (s73 fuX)) .e .e))))) (.n 97 (w1 (s97 fuX)) (.n 88 (w2 (s88 fuX)) (.n 82 (w4 (s82 fuX)) (.n 77 (w4 (s77 fuX)) (.n 76 (w1 (s76 fuX)) (.n 75 (w1 (s75 fuX)) .e .e) .e) (.n 80 (w4 (s80 fuX)) .e .e)) (.n 86 (w1 (s86 fuX)) (.n 85 (w1 (s85 fuX)) (.n 84 (w5 (s84 fuX)) .e .e) .e) (.n 87 (w1 (s87 fuX)) .e .e))) (.n 93 (w2 (s93 fuX)) (.n 91 (w2 (s91 fuX)) (.n 90 (w1 (s90 fuX)) (.n 89 (w1 (s89 fuX)) .e .e) .e) (.n 92 (w1 (s92 fuX)) .e .e)) (.n 95 (w1 (s95 fuX)) (.n 94 (w2 (s94 fuX)) .e .e) (.n 96 (w1 (s96 fuX)) .e .e)))) (.n 129 (w6 (s129 fuX)) (.n 102 (w2 (s102 fuX)) (.n 100 (w2 (s100 fuX)) (.n 99 (w2 (s99 fuX)) (.n 98 (w3 (s98 fuX)) .e .e) .e) (.n 101 (w2 (s101 fuX)) .e .e)) (.n 123 (w1 (s123 fuX)) (.n 104 (w2 (s104 fuX)) (.n 103 (w2 (s103 fuX)) .e .e) .e) (.n 124 (w1 (s124 fuX)) .e .e))) (.n 134 (w1 (s134 fuX)) (.n 132 (w1 (s132 fuX)) (.n 131 (w2 (s131 fuX)) (.n 130 (w2 (s130 fuX)) .e .e) .e) (.n 133 (w1 (s133 fuX)) .e .e)) (.n 136 (w2 (s136 fuX)) (.n 135 (w1 (s135 fuX)) .e .e) (.n 137 (w2 (s137 fuX)) .e .e)))))) (.n 208 (w1 (s208 fuX)) (.n 157 (w2 (s157 fuX)) (.n 148 (w2 (s148 fuX)) (.n 143 (w1 (s143 fuX)) (.n 141 (w2 (s141 fuX)) (.n 140 (w1 (s140 fuX)) (.n 139 (w1 (s139 fuX)) .e .e) .e) (.n 142 (w2 (s142 fuX)) .e .e)) (.n 146 (w4 (s146 fuX)) (.n 145 (w3 (s145 fuX)) (.n 144 (w2 (s144 fuX)) .e .e) .e) (.n 147 (w3 (s147 fuX)) .e .e))) (.n 153 (w3 (s153 fuX)) (.n 151 (w4 (s151 fuX)) (.n 150 (w3 (s150 fuX)) (.n 149 (w3 (s149 fuX)) .e .e) .e) (.n 152 (w3 (s152 fuX)) .e .e)) (.n 155 (w3 (s155 fuX)) (.n 154 (w5 (s154 fuX)) .e .e) (.n 156 (w2 (s156 fuX)) .e .e)))) (.n 196 (w2 (s196 fuX)) (.n 187 (w2 (s187 fuX)) (.n 174 (w2 (s174 fuX)) (.n 171 (w2 (s171 fuX)) (.n 158 (w1 (s158 fuX)) .e .e) .e) (.n 186 (w5 (s186 fuX)) .e .e)) (.n 191 (fun _ => gIx) (.n 190 (w2 (s190 fuX)) (.n 188 (w1 (s188 fuX)) .e .e) .e) (.n 195 (w1 (s195 fuX)) .e .e))) (.n 204 (w2 (s204 fuX)) (.n 202 (w1 (s202 fuX)) (.n 201 (w1 (s201 fuX)) (.n 200 (w1 (s200 fuX)) .e .e) .e) (.n 203 (w2 (s203 fuX)) .e .e)) (.n 206 (w1 (s206 fuX)) (.n 205 (w2 (s205 fuX)) .e .e) (.n 207 (w1 (s207 fuX)) .e .e))))) (.n 250 (w1 (s250 fuX)) (.n 228 (w2 (s228 fuX)) (.n 213 (w3 (s213 fuX)) (.n 211 (w2 (s211 fuX)) (.n 210 (w1 (s210 fuX)) (.n 209 (w2 (s209 fuX)) .e .e) .e) (.n 212 (w6 (s212 fuX)) .e .e)) (.n 223 (w2 (s223 fuX)) (.n 215 (w3 (s215 fuX)) (.n 214 (w3 (s214 fuX)) .e .e) .e) (.n 225 (w2 (s225 fuX)) .e .e))) (.n 245 (w1 (s245 fuX)) (.n 238 (w1 (s238 fuX)) (.n 237 (w2 (s237 fuX)) (.n 236 (w1 (s236 fuX)) .e .e) .e) (.n 244 (w2 (s244 fuX)) .e .e)) (.n 248 (w2 (s248 fuX)) (.n 246 (w1 (s246 fuX)) .e .e) (.n 249 (w2 (s249 fuX)) .e .e)))) (.n 270 (w2 (s270 fuX)) (.n 255 (w1 (s255 fuX)) (.n 253 (w1 (s253 fuX)) (.n 252 (w1 (s252 fuX)) (.n 251 (w2 (s251 fuX)) .e .e) .e) (.n 254 (w1 (s254 fuX)) .e .e)) (.n 258 (w1 (s258 fuX)) (.n 257 (w2 (s257 fuX)) (.n 256 (w2 (s256 fuX)) .e .e) .e) (.n 268 (w2 (s268 fuX)) .e .e))) (.n 291 (w1 (s291 fuX)) (.n 287 (w2 (s287 fuX)) (.n 285 (w1 (s285 fuX)) (.n 271 (w2 (s271 fuX)) .e .e) .e) (.n 289 (w2 (s289 fuX)) .e .e)) (.n 293 (w1 (s293 fuX)) (.n 292 (w1 (s292 fuX)) .e .e) (.n 311 (fun _ => gId) .e .e)))))))
theorem fnsOk : ∀ x ∈ fns.toL, PfOk Tryz.prog tbx mtab x.1 x.2 := (all_cons p3 (all_cons p15 (all_cons p16 (all_cons p17 (all_cons p18 (all_cons p19 (all_cons p20 (all_cons p21 (all_cons p22 (all_cons p31 (all_cons p32 (all_cons p33 (all_cons p34 (all_cons p35 (all_cons p36 (all_cons p37 (all_cons p38 (all_cons p39 (all_cons p40 (all_cons p41 (all_cons p42 (all_cons p49 (all_cons p50 (all_cons p51 (all_cons p52 (all_cons p53 (all_cons p54 (all_cons p55 (all_cons p56 (all_cons p57 (all_cons p58 (all_cons p59 (all_cons p60 (all_cons p61 (all_cons p62 (all_cons p63 (all_cons p73 (all_cons p74 (all_cons p75 (all_cons p76 (all_cons p77 (all_cons p80 (all_cons p82 (all_cons p84 (all_cons p85 (all_cons p86 (all_cons p87 (all_cons p88 (all_cons p89 (all_cons p90 (all_cons p91 (all_cons p92 (all_cons p93 (all_cons p94 (all_cons p95 (all_cons p96 (all_cons p97 (all_cons p98 (all_cons p99 (all_cons p100 (all_cons p101 (all_cons p102 (all_cons p103 (all_cons p104 (all_cons p123 (all_cons p124 (all_cons p129 (all_cons p130 (all_cons p131 (all_cons p132 (all_cons p133 (all_cons p134 (all_cons p135 (all_cons p136 (all_cons p137 (all_cons (pf_ext sd138) (all_cons p139 (all_cons p140 (all_cons p141 (all_cons p142 (all_cons p143 (all_cons p144 (all_cons p145 (all_cons p146 (all_cons p147 (all_cons p148 (all_cons p149 (all_cons p150 (all_cons p151 (all_cons p152 (all_cons p153 (all_cons p154 (all_cons p155 (all_cons p156 (all_cons p157 (all_cons p158 (all_cons p171 (all_cons p174 (all_cons p186 (all_cons p187 (all_cons p188 (all_cons p190 (all_cons (pf_ext sd191) (all_cons p195 (all_cons p196 (all_cons p200 (all_cons p201 (all_cons p202 (all_cons p203 (all_cons p204 (all_cons p205 (all_cons p206 (all_cons p207 (all_cons p208 (all_cons p209 (all_cons p210 (all_cons p211 (all_cons p212 (all_cons p213 (all_cons p214 (all_cons p215 (all_cons p223 (all_cons p225 (all_cons p228 (all_cons p236 (all_cons p237 (all_cons p238 (all_cons p244 (all_cons p245 (all_cons p246 (all_cons p248 (all_cons p249 (all_cons p250 (all_cons p251 (all_cons p252 (all_cons p253 (all_cons p254 (all_cons p255 (all_cons p256 (all_cons p257 (all_cons p258 (all_cons p268 (all_cons p270 (all_cons p271 (all_cons p285 (all_cons p287 (all_cons p289 (all_cons p291 (all_cons p292 (all_cons p293 (all_cons (pf_ext sd311) all_nil)))))))))))))))))))))))))))))))))))))))))))))))))))))))))))))))))))))))))))))))))))))))))))))))))))))))))))))))))))))))))))))))))))))))))))))))))))))))
noncomputable def cfX (d : Nat) : CF := cfB fns d
theorem cfX_ok (d : Nat) (f : FuncId) : Sd Tryz.prog f (cfX d f) := cfB_ok fnsOk d f
end Go.Proofs.Nw.X
end
section
/- XR: from the evaluator's word to a call from whatever world. -/
open Go Go.RowKit Go.Proofs
set_option linter.unusedVariables false
namespace Go.Proofs.Nw.X
open Go.Proofs.Nw.K
noncomputable abbrev n0 : Id := [.a, .a, .a, .a, .a, .a, .a, .a]
noncomputable abbrev kEnd : KV := fun v _ _ => some v
theorem HR.begin {W : World} (hG : Gi W) : HR { w := W, pr := fun b => b < W.heap.size, lt := fun _ h => h, gp := hG.pos, gi := hG } (fun _ => none) .e n0 W where
  below := ⟨rfl, rfl, rfl, Nat.le_refl _, fun _ _ => rfl⟩
  len := rfl
  dom := fun o pl h => by cases h
  inj := fun o o' pl pl' _ _ h => by cases h
  obj := fun o pl x h => by cases h
  rsv := fun o pl h => by cases h
  lo := Nat.zero_le _
theorem law_run {P : Program} {f : FuncId} {g : Fn1} (hc : callable P f = true) (h : Sd P f g) {vs : List V} {us : List Value} (hv : g vs .e n0 kEnd = some (.b true)) {W : World} (hG : Gi W) (hu : RVs (fun _ => none) vs us) :
    Calls P f us.toArray W fun e W' => e = .returned (.bool true) ∧ Below W.heap.size W W' := by
  obtain ⟨v, h', n', h1, h2⟩ := h vs .e n0 kEnd _ hv
  have h3 := h2 _ _ W us (HR.begin hG) hu
  rw [callFunc_run hc _ W] at h3
  refine Calls.mono h3 fun e W' ⟨u, he, ι', _, hb, hr⟩ => ?_
  obtain rfl : v = .b true := Option.some.inj h1
  obtain rfl : u = .bool true := hr
  exact ⟨he, hb.below.os, hb.below.tape, hb.below.output, hb.below.size, fun k hk => hb.below.block k hk⟩
def uN : Int → Nat
  | .ofNat m => m % 18446744073709551616
  | .negSucc m => 18446744073709551615 - m % 18446744073709551616
noncomputable abbrev vN (m : Nat) : V := .i .i64 (.ofNat m)
theorem uN_nat {m : Nat} (h : m < 18446744073709551616) : uN (.ofNat m) = m := Nat.mod_eq_of_lt h
end Go.Proofs.Nw.X
end
section
/- XW: a function without arguments that always answers true, by contract; the evaluator with such a function in it. -/
open Go Go.RowKit Go.Proofs
set_option linter.unusedVariables false
namespace Go.Proofs.Nw.X
open Go.Proofs.Nw.K
noncomputable def gTrue : Fn1 := fun vs h n k => List.casesOn (motive := fun _ => R) vs (k (.b true) h n) fun _ _ => none
theorem sd_true {P : Program} {f : FuncId} (hcall : callable P f = true) (hf : ∀ W : World, Gi W → Calls P f #[] W fun e W' => e = .returned (.bool true) ∧ Below W.heap.size W W') : Sd P f gTrue := by
  intro vs h n k r hr
  cases vs with
  | cons a vs => cases hr
  | nil =>
    refine ⟨.b true, h, n, hr, fun F ι w us hb hus => ?_⟩
    have hus : us = [] := hus
    subst hus
    rw [show (callFunc f ([] : List Value).toArray).run P w = .ok (.enter f ([] : List Value).toArray) w from callFunc_run hcall _ w]
    refine Calls.mono (hf w hb.below.gi) fun e w' he => ?_
    exact ⟨_, he.1, ι, Ext.refl _, hb.grown0 ⟨he.2.os, he.2.tape, he.2.output, he.2.size, fun k hk _ => he.2.block k hk⟩, rfl⟩
noncomputable def cfA (g : FuncId) (x : Fn1) (b : BT (CF → Fn1)) (d : Nat) : CF :=
  Nat.rec (motive := fun _ => CF) (fun _ _ _ _ _ => none) (fun _ ih f => cond (Nat.beq f g) x (Option.casesOn (motive := fun _ => Fn1) (b.get f) (fun _ _ _ _ => none) fun s => s ih)) d
theorem cfA_ok {P : Program} {T : Tab} {M : MTab} {g : FuncId} {x : Fn1} {b : BT (CF → Fn1)} (hx : Sd P g x) (H : ∀ x ∈ b.toL, PfOk P T M x.1 x.2) : ∀ d f, Sd P f (cfA g x b d f)
  | 0, f => fun vs h n k r hr => by cases hr
  | d + 1, f => by
    have e : cfA g x b (d + 1) f = cond (Nat.beq f g) x (Option.casesOn (motive := fun _ => Fn1) (b.get f) (fun _ _ _ _ => none) fun s => s (cfA g x b d)) := rfl
    rw [e]
    cases hb : Nat.beq f g with
    | true => have := Nat.eq_of_beq_eq_true hb; subst this; exact hx
    | false =>
      show Sd P f (Option.casesOn (motive := fun _ => Fn1) (b.get f) (fun _ _ _ _ => none) fun s => s (cfA g x b d))
      cases hg : b.get f with
      | none => exact fun vs h n k r hr => by cases hr
      | some s => exact H (f, s) (BT.get_mem hg) (cfA g x b d) (cfA_ok hx H d)
end Go.Proofs.Nw.X
end
section
/- printed by awk.py: function 21 by contract. -/
open Go Go.RowKit Go.Proofs
set_option maxRecDepth 100000
namespace Go.Proofs.Nw.X
open Go.Proofs.Nw.K
theorem aw21 : cfX 200 21 [] .e n0 kEnd = some (.b true) := by kernel_rfl
theorem run21 {W : World} (hG : Gi W) : Calls Tryz.prog 21 #[] W fun e W' => e = .returned (.bool true) ∧ Below W.heap.size W W' :=
  law_run (us := []) (vs := []) (by kernel_rfl) (cfX_ok 200 21) aw21 hG rfl
theorem sdAw : Sd Tryz.prog 21 gTrue := sd_true (by kernel_rfl) fun W hG => run21 hG
noncomputable def cfY (d : Nat) : CF := cfA 21 gTrue fns d
theorem cfY_ok (d : Nat) (f : FuncId) : Sd Tryz.prog f (cfY d f) := cfA_ok sdAw fnsOk d f
end Go.Proofs.Nw.X
end
