/- Bundle: NwXN6, NwFShelf, NwXNE, NwXN, NwXR, NwXW, NwXNW. -/
import Derived.Test.YtbooikopklijdaaGreatDoorNwN12
import Derived.Shelf.Small.Utf8
import Derived.Shelf.Small.Strs
import Derived.Shelf.Strings.Search1
import Derived.Shelf.Strings.Search2
import Derived.Shelf.Strings.Search3
import Derived.Shelf.Strings.Cut
import Derived.Shelf.LaysM
import Derived.Shelf.Strings.Shaped
import Derived.Shelf.Strings.Runes
import Derived.Shelf.Strings.IndexAny
import Derived.Shelf.Strings.AsciiSet
import Derived.Shelf.Strings.IndexAnyAll
import Derived.Shelf.Unicode.DecodeSlow
import Derived.Test.YtbooikopklijdaaGreatDoorProg
import Derived.Below
set_option linter.constructorNameAsVariable false
set_option linter.unusedVariables false
set_option linter.unusedSimpArgs false
set_option linter.unusedSectionVars false
section
/- printed by xg.py: seat F's functions, 6. -/
open Go Go.RowKit Go.Proofs
set_option linter.unusedVariables false
set_option maxRecDepth 100000
namespace Go.Proofs.Nw.X
open Go.Proofs.Nw.K
noncomputable def s317 (fu : Nat) (cf : CF) (a0 a1 a2 a3 : V) (h : H) (n : Id) (k : KV) : R :=
 evBin2 tbx .add 3 a1 (.i .i64 1) fun v1 =>
 jp (fun (s2 : VT []) h n =>
 k (.b false) h n) fun kk3 =>
 lpC [0, 1, 2, 3, 9, 10] (fun lo5 s4 h n =>
 pc s4 fun v6 s7 =>
 pc s7 fun v8 s9 =>
 pc s9 fun v10 s11 =>
 pc s11 fun v12 s13 =>
 pc s13 fun v14 s15 =>
 pc s15 fun v16 s17 =>
 evBin2 tbx .lss 3 v16 (.i .i64 5) fun v18 =>
 brB v18 (
 jp (fun (s19 : VT [0, 1, 2, 3, 9, 10]) h n =>
 pc s19 fun v21 s22 =>
 pc s22 fun v23 s24 =>
 pc s24 fun v25 s26 =>
 pc s26 fun v27 s28 =>
 pc s28 fun v29 s30 =>
 pc s30 fun v31 s32 =>
 evBin2 tbx .add 3 v31 (.i .i64 1) fun v33 =>
 lo5 (v21, v23, v25, v27, v29, v33, ()) h n) fun kk20 =>
 jp (fun (s34 : VT [0, 1, 2, 3, 9, 10]) h n =>
 pc s34 fun v36 s37 =>
 pc s37 fun v38 s39 =>
 pc s39 fun v40 s41 =>
 pc s41 fun v42 s43 =>
 pc s43 fun v44 s45 =>
 pc s45 fun v46 s47 =>
 evBin2 tbx .eql 3 v44 v40 fun v48 =>
 brB v48 (
 k (.b true) h n) (
 evBin2 tbx .sub 3 v40 v38 fun v49 =>
 evBin2 tbx .lss 3 v49 (.i .i64 50) fun v50 =>
 brB v50 (
 k (.b false) h n) (
 evBin2 tbx .sub 3 v44 (.i .i64 1) fun v51 =>
 evBin2 tbx .sub 3 v44 (.i .i64 1) fun v52 =>
 evIa tbx 29 v36 v52 fun v53 =>
 evLoad tbx 57 v53 h fun v54 =>
 evIa tbx 29 v36 v44 fun v55 =>
 evLoad tbx 57 v55 h fun v56 =>
 evIa tbx 29 v36 v44 fun v57 =>
 evLoad tbx 57 v53 h fun w216 => cond (eqV 6 w216 v54) (
 evLoad tbx 57 v55 h fun w215 => cond (eqV 6 w215 v56) (
 evStore tbx 57 v57 v54 h n fun _ h n =>
 evIa tbx 29 v36 v51 fun v58 =>
 evStore tbx 57 v58 v56 h n fun _ h n =>
 jp (fun (s59 : VT [0, 1, 2, 3, 9, 10]) h n =>
 pc s59 fun v61 s62 =>
 pc s62 fun v63 s64 =>
 pc s64 fun v65 s66 =>
 pc s66 fun v67 s68 =>
 pc s68 fun v69 s70 =>
 pc s70 fun v71 s72 =>
 evBin2 tbx .sub 3 v65 v69 fun v73 =>
 evBin2 tbx .geq 3 v73 (.i .i64 2) fun v74 =>
 brB v74 (
 evBin2 tbx .add 3 v69 (.i .i64 1) fun v75 =>
 jp (fun (s76 : VT [0, 1, 2, 3, 9, 10]) h n =>
 pc s76 fun v78 s79 =>
 pc s79 fun v80 s81 =>
 pc s81 fun v82 s83 =>
 pc s83 fun v84 s85 =>
 pc s85 fun v86 s87 =>
 pc s87 fun v88 s89 =>
 kk20 (v78, v80, v82, v84, v86, v88, ()) h n) fun kk77 =>
 lpC [0, 1, 2, 3, 9, 10, 12] (fun lo91 s90 h n =>
 pc s90 fun v92 s93 =>
 pc s93 fun v94 s95 =>
 pc s95 fun v96 s97 =>
 pc s97 fun v98 s99 =>
 pc s99 fun v100 s101 =>
 pc s101 fun v102 s103 =>
 pc s103 fun v104 s105 =>
 evBin2 tbx .lss 3 v104 v96 fun v106 =>
 brB v106 (
 jp (fun (s107 : VT [0, 1, 2, 3, 9, 10, 12]) h n =>
 pc s107 fun v109 s110 =>
 pc s110 fun v111 s112 =>
 pc s112 fun v113 s114 =>
 pc s114 fun v115 s116 =>
 pc s116 fun v117 s118 =>
 pc s118 fun v119 s120 =>
 pc s120 fun v121 s122 =>
 evBin2 tbx .add 3 v121 (.i .i64 1) fun v123 =>
 lo91 (v109, v111, v113, v115, v117, v119, v123, ()) h n) fun kk108 =>
 evIa tbx 29 v92 v104 fun v124 =>
 evLoad tbx 57 v124 h fun v125 =>
 evBin2 tbx .sub 3 v104 (.i .i64 1) fun v126 =>
 evIa tbx 29 v92 v126 fun v127 =>
 evLoad tbx 57 v127 h fun v128 =>
 evLoad tbx 57 v124 h fun w143 => cond (eqV 6 w143 v125) (
 evLoad tbx 57 v127 h fun w142 => cond (eqV 6 w142 v128) (
 evCall cf v98 [v125, v128] h n fun v129 h n =>
 evBin2 tbx .lss 3 v129 (.i .i64 0) fun v130 =>
 evUn .not v130 fun v131 =>
 brB v131 (
 kk77 (v92, v94, v96, v98, v100, v102, ()) h n) (
 evBin2 tbx .sub 3 v104 (.i .i64 1) fun v132 =>
 evBin2 tbx .sub 3 v104 (.i .i64 1) fun v133 =>
 evIa tbx 29 v92 v133 fun v134 =>
 evLoad tbx 57 v134 h fun v135 =>
 evIa tbx 29 v92 v104 fun v136 =>
 evLoad tbx 57 v136 h fun v137 =>
 evIa tbx 29 v92 v104 fun v138 =>
 evLoad tbx 57 v134 h fun w141 => cond (eqV 6 w141 v135) (
 evLoad tbx 57 v136 h fun w140 => cond (eqV 6 w140 v137) (
 evStore tbx 57 v138 v135 h n fun _ h n =>
 evIa tbx 29 v92 v132 fun v139 =>
 evStore tbx 57 v139 v137 h n fun _ h n =>
 kk108 (v92, v94, v96, v98, v100, v102, v104, ()) h n) none) none)) none) none) (
 kk77 (v92, v94, v96, v98, v100, v102, ()) h n)) fu (v61, v63, v65, v67, v69, v71, v75, ()) h n) (
 kk20 (v61, v63, v65, v67, v69, v71, ()) h n)) fun kk60 =>
 evBin2 tbx .sub 3 v44 v38 fun v144 =>
 evBin2 tbx .geq 3 v144 (.i .i64 2) fun v145 =>
 brB v145 (
 evBin2 tbx .sub 3 v44 (.i .i64 1) fun v146 =>
 jp (fun (s147 : VT [0, 1, 2, 3, 9, 10]) h n =>
 pc s147 fun v149 s150 =>
 pc s150 fun v151 s152 =>
 pc s152 fun v153 s154 =>
 pc s154 fun v155 s156 =>
 pc s156 fun v157 s158 =>
 pc s158 fun v159 s160 =>
 kk60 (v149, v151, v153, v155, v157, v159, ()) h n) fun kk148 =>
 lpC [0, 1, 2, 3, 9, 10, 11] (fun lo162 s161 h n =>
 pc s161 fun v163 s164 =>
 pc s164 fun v165 s166 =>
 pc s166 fun v167 s168 =>
 pc s168 fun v169 s170 =>
 pc s170 fun v171 s172 =>
 pc s172 fun v173 s174 =>
 pc s174 fun v175 s176 =>
 evBin2 tbx .geq 3 v175 (.i .i64 1) fun v177 =>
 brB v177 (
 jp (fun (s178 : VT [0, 1, 2, 3, 9, 10, 11]) h n =>
 pc s178 fun v180 s181 =>
 pc s181 fun v182 s183 =>
 pc s183 fun v184 s185 =>
 pc s185 fun v186 s187 =>
 pc s187 fun v188 s189 =>
 pc s189 fun v190 s191 =>
 pc s191 fun v192 s193 =>
 evBin2 tbx .sub 3 v192 (.i .i64 1) fun v194 =>
 lo162 (v180, v182, v184, v186, v188, v190, v194, ()) h n) fun kk179 =>
 evIa tbx 29 v163 v175 fun v195 =>
 evLoad tbx 57 v195 h fun v196 =>
 evBin2 tbx .sub 3 v175 (.i .i64 1) fun v197 =>
 evIa tbx 29 v163 v197 fun v198 =>
 evLoad tbx 57 v198 h fun v199 =>
 evLoad tbx 57 v195 h fun w214 => cond (eqV 6 w214 v196) (
 evLoad tbx 57 v198 h fun w213 => cond (eqV 6 w213 v199) (
 evCall cf v169 [v196, v199] h n fun v200 h n =>
 evBin2 tbx .lss 3 v200 (.i .i64 0) fun v201 =>
 evUn .not v201 fun v202 =>
 brB v202 (
 kk148 (v163, v165, v167, v169, v171, v173, ()) h n) (
 evBin2 tbx .sub 3 v175 (.i .i64 1) fun v203 =>
 evBin2 tbx .sub 3 v175 (.i .i64 1) fun v204 =>
 evIa tbx 29 v163 v204 fun v205 =>
 evLoad tbx 57 v205 h fun v206 =>
 evIa tbx 29 v163 v175 fun v207 =>
 evLoad tbx 57 v207 h fun v208 =>
 evIa tbx 29 v163 v175 fun v209 =>
 evLoad tbx 57 v205 h fun w212 => cond (eqV 6 w212 v206) (
 evLoad tbx 57 v207 h fun w211 => cond (eqV 6 w211 v208) (
 evStore tbx 57 v209 v206 h n fun _ h n =>
 evIa tbx 29 v163 v203 fun v210 =>
 evStore tbx 57 v210 v208 h n fun _ h n =>
 kk179 (v163, v165, v167, v169, v171, v173, v175, ()) h n) none) none)) none) none) (
 kk148 (v163, v165, v167, v169, v171, v173, ()) h n)) fu (v36, v38, v40, v42, v44, v46, v146, ()) h n) (
 kk60 (v36, v38, v40, v42, v44, v46, ()) h n)) none) none))) fun kk35 =>
 lpC [0, 1, 2, 3, 9, 10] (fun lo218 s217 h n =>
 pc s217 fun v219 s220 =>
 pc s220 fun v221 s222 =>
 pc s222 fun v223 s224 =>
 pc s224 fun v225 s226 =>
 pc s226 fun v227 s228 =>
 pc s228 fun v229 s230 =>
 evBin2 tbx .lss 3 v227 v223 fun v231 =>
 jp (fun (v232 : V) h n =>
 jp (fun (v234 : V) h n =>
 jp (fun (v236 : V) h n =>
 jp (fun (v238 : V) h n =>
 jp (fun (v240 : V) h n =>
 jp (fun (v242 : V) h n =>
 jp (fun (v244 : V) h n =>
 jp (fun (v246 : V) h n =>
 jp (fun (v248 : V) h n =>
 jp (fun (v250 : V) h n =>
 thenR (wsB (wV v231 true) (evLoad tbx 57 v238 h fun w252 => cond (eqV 6 w252 v240) (okR) none) (cond (eqV 2 v240 (.tp [])) okR none)) (
 thenR (wsB (wV v231 true) (evLoad tbx 57 v248 h fun w253 => cond (eqV 6 w253 v250) (okR) none) (cond (eqV 2 v250 (.tp [])) okR none)) (
 jp (fun (v254 : V) h n =>
 jp (fun (v256 : V) h n =>
 jp (fun (v258 : V) h n =>
 evPick v231 v258 (.b false) fun v260 =>
 brB v260 (
 jp (fun (s261 : VT [0, 1, 2, 3, 9, 10]) h n =>
 pc s261 fun v263 s264 =>
 pc s264 fun v265 s266 =>
 pc s266 fun v267 s268 =>
 pc s268 fun v269 s270 =>
 pc s270 fun v271 s272 =>
 pc s272 fun v273 s274 =>
 lo218 (v263, v265, v267, v269, v271, v273, ()) h n) fun kk262 =>
 evBin2 tbx .add 3 v227 (.i .i64 1) fun v275 =>
 kk262 (v219, v221, v223, v225, v275, v229, ()) h n) (
 kk35 (v219, v221, v223, v225, v227, v229, ()) h n)) fun kk259 =>
 wsB (wV v231 true) ((evUn .not v256 fun v => kk259 v h n)) (kk259 (.tp []) h n)) fun kk257 =>
 wsB (wV v231 true) ((evBin2 tbx .lss 3 v254 (.i .i64 0) fun v => kk257 v h n)) (kk257 (.tp []) h n)) fun kk255 =>
 wsB (wV v231 true) ((evCall cf v232 [v240, v250] h n kk255)) (kk255 (.tp []) h n)))) fun kk251 =>
 wsB (wV v231 true) ((evLoad tbx 57 v248 h fun v => kk251 v h n)) (kk251 (.tp []) h n)) fun kk249 =>
 wsB (wV v231 true) ((evIa tbx 29 v242 v246 fun v => kk249 v h n)) (kk249 (.tp []) h n)) fun kk247 =>
 wsB (wV v231 true) ((evBin2 tbx .sub 3 v244 (.i .i64 1) fun v => kk247 v h n)) (kk247 (.tp []) h n)) fun kk245 =>
 wsB (wV v231 true) (kk245 v227 h n) (kk245 (.tp []) h n)) fun kk243 =>
 wsB (wV v231 true) (kk243 v219 h n) (kk243 (.tp []) h n)) fun kk241 =>
 wsB (wV v231 true) ((evLoad tbx 57 v238 h fun v => kk241 v h n)) (kk241 (.tp []) h n)) fun kk239 =>
 wsB (wV v231 true) ((evIa tbx 29 v234 v236 fun v => kk239 v h n)) (kk239 (.tp []) h n)) fun kk237 =>
 wsB (wV v231 true) (kk237 v227 h n) (kk237 (.tp []) h n)) fun kk235 =>
 wsB (wV v231 true) (kk235 v219 h n) (kk235 (.tp []) h n)) fun kk233 =>
 wsB (wV v231 true) (kk233 v225 h n) (kk233 (.tp []) h n)) fu (v6, v8, v10, v12, v14, v16, ()) h n) (
 kk3 (()) h n)) fu (a0, a1, a2, a3, v1, (.i .i64 0), ()) h n
noncomputable def e317 : FE := ⟨Tryz.f317, bd Tryz.f317, [0, 1, 2, 3], [8], (.q .z (.q .z (.q (.q .z (.b [] (.l [0, 1, 2, 3, 9, 10] (.q (.q .z (.c .z .z)) (.q (.b [0, 1, 2, 3, 9, 10] (.q (.b [0, 1, 2, 3, 9, 10] (.l [0, 1, 2, 3, 9, 10] (.q (.q .z (.c .z .z)) (.b [0, 1, 2, 3, 9, 10] .z)))) (.q (.q .z (.c (.q .z .z) .z)) (.q (.q .z (.c (.q .z .z) .z)) (.q .z (.s [0, 1, 2, 3, 9, 10] (.q .z (.c (.q .z (.b [0, 1, 2, 3, 9, 10] (.l [0, 1, 2, 3, 9, 10, 11] (.q (.q .z (.c .z .z)) (.q (.b [0, 1, 2, 3, 9, 10, 11] (.q (.q .z (.c .z .z)) .z)) .z))))) .z)) (.q .z (.c (.q .z (.b [0, 1, 2, 3, 9, 10] (.l [0, 1, 2, 3, 9, 10, 12] (.q (.q .z (.c .z .z)) (.q (.b [0, 1, 2, 3, 9, 10, 12] (.q (.q .z (.c .z .z)) .z)) .z))))) .z)))))))) .z))))) (.q .z .z))))⟩
theorem q317 (fu : Nat) (cf : CF) (a0 a1 a2 a3 : V) (h : H) (n : Id) (k : KV) : evF fu cf e317 [a0, a1, a2, a3] h n k = s317 fu cf a0 a1 a2 a3 h n k := by kernel_rfl
theorem p317 : PfOk Tryz.prog tbx mtab 317 (w4 (s317 fuX)) := pfo e317 Tryz.func317 (by kernel_rfl) (w4_ok (q317 fuX))
noncomputable def s319 (fu : Nat) (cf : CF) (a0 a1 a2 a3 a4 : V) (h : H) (n : Id) (k : KV) : R :=
 evIa tbx 29 a0 a3 fun v1 =>
 evLoad tbx 57 v1 h fun v2 =>
 evIa tbx 29 a0 a1 fun v3 =>
 evLoad tbx 57 v3 h fun v4 =>
 evIa tbx 29 a0 a1 fun v5 =>
 evLoad tbx 57 v1 h fun w336 => cond (eqV 6 w336 v2) (
 evLoad tbx 57 v3 h fun w335 => cond (eqV 6 w335 v4) (
 evStore tbx 57 v5 v2 h n fun _ h n =>
 evIa tbx 29 a0 a3 fun v6 =>
 evStore tbx 57 v6 v4 h n fun _ h n =>
 evBin2 tbx .add 3 a1 (.i .i64 1) fun v7 =>
 evBin2 tbx .sub 3 a2 (.i .i64 1) fun v8 =>
 jp (fun (s9 : VT [0, 1, 4, 12, 13]) h n =>
 pc s9 fun v11 s12 =>
 pc s12 fun v13 s14 =>
 pc s14 fun v15 s16 =>
 pc s16 fun v17 s18 =>
 pc s18 fun v19 s20 =>
 jp (fun (s21 : VT [0, 1, 4, 12, 13]) h n =>
 pc s21 fun v23 s24 =>
 pc s24 fun v25 s26 =>
 pc s26 fun v27 s28 =>
 pc s28 fun v29 s30 =>
 pc s30 fun v31 s32 =>
 evBin2 tbx .gtr 3 v29 v31 fun v33 =>
 brB v33 (
 evIa tbx 29 v23 v25 fun v34 =>
 evLoad tbx 57 v34 h fun v35 =>
 evIa tbx 29 v23 v31 fun v36 =>
 evLoad tbx 57 v36 h fun v37 =>
 evIa tbx 29 v23 v31 fun v38 =>
 evLoad tbx 57 v34 h fun w41 => cond (eqV 6 w41 v35) (
 evLoad tbx 57 v36 h fun w40 => cond (eqV 6 w40 v37) (
 evStore tbx 57 v38 v35 h n fun _ h n =>
 evIa tbx 29 v23 v25 fun v39 =>
 evStore tbx 57 v39 v37 h n fun _ h n =>
 k (.tp [v31, (.b true)]) h n) none) none) (
 evIa tbx 29 v23 v31 fun v42 =>
 evLoad tbx 57 v42 h fun v43 =>
 evIa tbx 29 v23 v29 fun v44 =>
 evLoad tbx 57 v44 h fun v45 =>
 evIa tbx 29 v23 v29 fun v46 =>
 evLoad tbx 57 v42 h fun w230 => cond (eqV 6 w230 v43) (
 evLoad tbx 57 v44 h fun w229 => cond (eqV 6 w229 v45) (
 evStore tbx 57 v46 v43 h n fun _ h n =>
 evIa tbx 29 v23 v31 fun v47 =>
 evStore tbx 57 v47 v45 h n fun _ h n =>
 evBin2 tbx .add 3 v29 (.i .i64 1) fun v48 =>
 evBin2 tbx .sub 3 v31 (.i .i64 1) fun v49 =>
 jp (fun (s50 : VT [0, 1, 13]) h n =>
 pc s50 fun v52 s53 =>
 pc s53 fun v54 s55 =>
 pc s55 fun v56 s57 =>
 evIa tbx 29 v52 v54 fun v58 =>
 evLoad tbx 57 v58 h fun v59 =>
 evIa tbx 29 v52 v56 fun v60 =>
 evLoad tbx 57 v60 h fun v61 =>
 evIa tbx 29 v52 v56 fun v62 =>
 evLoad tbx 57 v58 h fun w65 => cond (eqV 6 w65 v59) (
 evLoad tbx 57 v60 h fun w64 => cond (eqV 6 w64 v61) (
 evStore tbx 57 v62 v59 h n fun _ h n =>
 evIa tbx 29 v52 v54 fun v63 =>
 evStore tbx 57 v63 v61 h n fun _ h n =>
 k (.tp [v56, (.b false)]) h n) none) none) fun kk51 =>
 lpC [0, 1, 4, 12, 13] (fun lo67 s66 h n =>
 pc s66 fun v68 s69 =>
 pc s69 fun v70 s71 =>
 pc s71 fun v72 s73 =>
 pc s73 fun v74 s75 =>
 pc s75 fun v76 s77 =>
 jp (fun (s78 : VT [0, 1, 4, 12, 13]) h n =>
 pc s78 fun v80 s81 =>
 pc s81 fun v82 s83 =>
 pc s83 fun v84 s85 =>
 pc s85 fun v86 s87 =>
 pc s87 fun v88 s89 =>
 lo67 (v80, v82, v84, v86, v88, ()) h n) fun kk79 =>
 jp (fun (s90 : VT [0, 1, 4, 12, 13]) h n =>
 pc s90 fun v92 s93 =>
 pc s93 fun v94 s95 =>
 pc s95 fun v96 s97 =>
 pc s97 fun v98 s99 =>
 pc s99 fun v100 s101 =>
 jp (fun (s102 : VT [0, 1, 4, 12, 13]) h n =>
 pc s102 fun v104 s105 =>
 pc s105 fun v106 s107 =>
 pc s107 fun v108 s109 =>
 pc s109 fun v110 s111 =>
 pc s111 fun v112 s113 =>
 evBin2 tbx .gtr 3 v110 v112 fun v114 =>
 brB v114 (
 kk51 (v104, v106, v112, ()) h n) (
 evIa tbx 29 v104 v112 fun v115 =>
 evLoad tbx 57 v115 h fun v116 =>
 evIa tbx 29 v104 v110 fun v117 =>
 evLoad tbx 57 v117 h fun v118 =>
 evIa tbx 29 v104 v110 fun v119 =>
 evLoad tbx 57 v115 h fun w124 => cond (eqV 6 w124 v116) (
 evLoad tbx 57 v117 h fun w123 => cond (eqV 6 w123 v118) (
 evStore tbx 57 v119 v116 h n fun _ h n =>
 evIa tbx 29 v104 v112 fun v120 =>
 evStore tbx 57 v120 v118 h n fun _ h n =>
 evBin2 tbx .add 3 v110 (.i .i64 1) fun v121 =>
 evBin2 tbx .sub 3 v112 (.i .i64 1) fun v122 =>
 kk79 (v104, v106, v108, v121, v122, ()) h n) none) none)) fun kk103 =>
 lpC [0, 1, 4, 12, 13] (fun lo126 s125 h n =>
 pc s125 fun v127 s128 =>
 pc s128 fun v129 s130 =>
 pc s130 fun v131 s132 =>
 pc s132 fun v133 s134 =>
 pc s134 fun v135 s136 =>
 evBin2 tbx .leq 3 v133 v135 fun v137 =>
 jp (fun (v138 : V) h n =>
 jp (fun (v140 : V) h n =>
 jp (fun (v142 : V) h n =>
 jp (fun (v144 : V) h n =>
 jp (fun (v146 : V) h n =>
 jp (fun (v148 : V) h n =>
 jp (fun (v150 : V) h n =>
 jp (fun (v152 : V) h n =>
 jp (fun (v154 : V) h n =>
 thenR (wsB (wV v137 true) (evLoad tbx 57 v144 h fun w156 => cond (eqV 6 w156 v146) (okR) none) (cond (eqV 2 v146 (.tp [])) okR none)) (
 thenR (wsB (wV v137 true) (evLoad tbx 57 v152 h fun w157 => cond (eqV 6 w157 v154) (okR) none) (cond (eqV 2 v154 (.tp [])) okR none)) (
 jp (fun (v158 : V) h n =>
 jp (fun (v160 : V) h n =>
 jp (fun (v162 : V) h n =>
 evPick v137 v162 (.b false) fun v164 =>
 brB v164 (
 jp (fun (s165 : VT [0, 1, 4, 12, 13]) h n =>
 pc s165 fun v167 s168 =>
 pc s168 fun v169 s170 =>
 pc s170 fun v171 s172 =>
 pc s172 fun v173 s174 =>
 pc s174 fun v175 s176 =>
 lo126 (v167, v169, v171, v173, v175, ()) h n) fun kk166 =>
 evBin2 tbx .sub 3 v135 (.i .i64 1) fun v177 =>
 kk166 (v127, v129, v131, v133, v177, ()) h n) (
 kk103 (v127, v129, v131, v133, v135, ()) h n)) fun kk163 =>
 wsB (wV v137 true) ((evUn .not v160 fun v => kk163 v h n)) (kk163 (.tp []) h n)) fun kk161 =>
 wsB (wV v137 true) ((evBin2 tbx .lss 3 v158 (.i .i64 0) fun v => kk161 v h n)) (kk161 (.tp []) h n)) fun kk159 =>
 wsB (wV v137 true) ((evCall cf v138 [v146, v154] h n kk159)) (kk159 (.tp []) h n)))) fun kk155 =>
 wsB (wV v137 true) ((evLoad tbx 57 v152 h fun v => kk155 v h n)) (kk155 (.tp []) h n)) fun kk153 =>
 wsB (wV v137 true) ((evIa tbx 29 v148 v150 fun v => kk153 v h n)) (kk153 (.tp []) h n)) fun kk151 =>
 wsB (wV v137 true) (kk151 v129 h n) (kk151 (.tp []) h n)) fun kk149 =>
 wsB (wV v137 true) (kk149 v127 h n) (kk149 (.tp []) h n)) fun kk147 =>
 wsB (wV v137 true) ((evLoad tbx 57 v144 h fun v => kk147 v h n)) (kk147 (.tp []) h n)) fun kk145 =>
 wsB (wV v137 true) ((evIa tbx 29 v140 v142 fun v => kk145 v h n)) (kk145 (.tp []) h n)) fun kk143 =>
 wsB (wV v137 true) (kk143 v135 h n) (kk143 (.tp []) h n)) fun kk141 =>
 wsB (wV v137 true) (kk141 v127 h n) (kk141 (.tp []) h n)) fun kk139 =>
 wsB (wV v137 true) (kk139 v131 h n) (kk139 (.tp []) h n)) fu (v92, v94, v96, v98, v100, ()) h n) fun kk91 =>
 lpC [0, 1, 4, 12, 13] (fun lo179 s178 h n =>
 pc s178 fun v180 s181 =>
 pc s181 fun v182 s183 =>
 pc s183 fun v184 s185 =>
 pc s185 fun v186 s187 =>
 pc s187 fun v188 s189 =>
 evBin2 tbx .leq 3 v186 v188 fun v190 =>
 jp (fun (v191 : V) h n =>
 jp (fun (v193 : V) h n =>
 jp (fun (v195 : V) h n =>
 jp (fun (v197 : V) h n =>
 jp (fun (v199 : V) h n =>
 jp (fun (v201 : V) h n =>
 jp (fun (v203 : V) h n =>
 jp (fun (v205 : V) h n =>
 jp (fun (v207 : V) h n =>
 thenR (wsB (wV v190 true) (evLoad tbx 57 v197 h fun w209 => cond (eqV 6 w209 v199) (okR) none) (cond (eqV 2 v199 (.tp [])) okR none)) (
 thenR (wsB (wV v190 true) (evLoad tbx 57 v205 h fun w210 => cond (eqV 6 w210 v207) (okR) none) (cond (eqV 2 v207 (.tp [])) okR none)) (
 jp (fun (v211 : V) h n =>
 jp (fun (v213 : V) h n =>
 evPick v190 v213 (.b false) fun v215 =>
 brB v215 (
 jp (fun (s216 : VT [0, 1, 4, 12, 13]) h n =>
 pc s216 fun v218 s219 =>
 pc s219 fun v220 s221 =>
 pc s221 fun v222 s223 =>
 pc s223 fun v224 s225 =>
 pc s225 fun v226 s227 =>
 lo179 (v218, v220, v222, v224, v226, ()) h n) fun kk217 =>
 evBin2 tbx .add 3 v186 (.i .i64 1) fun v228 =>
 kk217 (v180, v182, v184, v228, v188, ()) h n) (
 kk91 (v180, v182, v184, v186, v188, ()) h n)) fun kk214 =>
 wsB (wV v190 true) ((evBin2 tbx .lss 3 v211 (.i .i64 0) fun v => kk214 v h n)) (kk214 (.tp []) h n)) fun kk212 =>
 wsB (wV v190 true) ((evCall cf v191 [v199, v207] h n kk212)) (kk212 (.tp []) h n)))) fun kk208 =>
 wsB (wV v190 true) ((evLoad tbx 57 v205 h fun v => kk208 v h n)) (kk208 (.tp []) h n)) fun kk206 =>
 wsB (wV v190 true) ((evIa tbx 29 v201 v203 fun v => kk206 v h n)) (kk206 (.tp []) h n)) fun kk204 =>
 wsB (wV v190 true) (kk204 v182 h n) (kk204 (.tp []) h n)) fun kk202 =>
 wsB (wV v190 true) (kk202 v180 h n) (kk202 (.tp []) h n)) fun kk200 =>
 wsB (wV v190 true) ((evLoad tbx 57 v197 h fun v => kk200 v h n)) (kk200 (.tp []) h n)) fun kk198 =>
 wsB (wV v190 true) ((evIa tbx 29 v193 v195 fun v => kk198 v h n)) (kk198 (.tp []) h n)) fun kk196 =>
 wsB (wV v190 true) (kk196 v186 h n) (kk196 (.tp []) h n)) fun kk194 =>
 wsB (wV v190 true) (kk194 v180 h n) (kk194 (.tp []) h n)) fun kk192 =>
 wsB (wV v190 true) (kk192 v184 h n) (kk192 (.tp []) h n)) fu (v68, v70, v72, v74, v76, ()) h n) fu (v23, v25, v27, v48, v49, ()) h n) none) none)) fun kk22 =>
 lpC [0, 1, 4, 12, 13] (fun lo232 s231 h n =>
 pc s231 fun v233 s234 =>
 pc s234 fun v235 s236 =>
 pc s236 fun v237 s238 =>
 pc s238 fun v239 s240 =>
 pc s240 fun v241 s242 =>
 evBin2 tbx .leq 3 v239 v241 fun v243 =>
 jp (fun (v244 : V) h n =>
 jp (fun (v246 : V) h n =>
 jp (fun (v248 : V) h n =>
 jp (fun (v250 : V) h n =>
 jp (fun (v252 : V) h n =>
 jp (fun (v254 : V) h n =>
 jp (fun (v256 : V) h n =>
 jp (fun (v258 : V) h n =>
 jp (fun (v260 : V) h n =>
 thenR (wsB (wV v243 true) (evLoad tbx 57 v250 h fun w262 => cond (eqV 6 w262 v252) (okR) none) (cond (eqV 2 v252 (.tp [])) okR none)) (
 thenR (wsB (wV v243 true) (evLoad tbx 57 v258 h fun w263 => cond (eqV 6 w263 v260) (okR) none) (cond (eqV 2 v260 (.tp [])) okR none)) (
 jp (fun (v264 : V) h n =>
 jp (fun (v266 : V) h n =>
 jp (fun (v268 : V) h n =>
 evPick v243 v268 (.b false) fun v270 =>
 brB v270 (
 jp (fun (s271 : VT [0, 1, 4, 12, 13]) h n =>
 pc s271 fun v273 s274 =>
 pc s274 fun v275 s276 =>
 pc s276 fun v277 s278 =>
 pc s278 fun v279 s280 =>
 pc s280 fun v281 s282 =>
 lo232 (v273, v275, v277, v279, v281, ()) h n) fun kk272 =>
 evBin2 tbx .sub 3 v241 (.i .i64 1) fun v283 =>
 kk272 (v233, v235, v237, v239, v283, ()) h n) (
 kk22 (v233, v235, v237, v239, v241, ()) h n)) fun kk269 =>
 wsB (wV v243 true) ((evUn .not v266 fun v => kk269 v h n)) (kk269 (.tp []) h n)) fun kk267 =>
 wsB (wV v243 true) ((evBin2 tbx .lss 3 v264 (.i .i64 0) fun v => kk267 v h n)) (kk267 (.tp []) h n)) fun kk265 =>
 wsB (wV v243 true) ((evCall cf v244 [v252, v260] h n kk265)) (kk265 (.tp []) h n)))) fun kk261 =>
 wsB (wV v243 true) ((evLoad tbx 57 v258 h fun v => kk261 v h n)) (kk261 (.tp []) h n)) fun kk259 =>
 wsB (wV v243 true) ((evIa tbx 29 v254 v256 fun v => kk259 v h n)) (kk259 (.tp []) h n)) fun kk257 =>
 wsB (wV v243 true) (kk257 v235 h n) (kk257 (.tp []) h n)) fun kk255 =>
 wsB (wV v243 true) (kk255 v233 h n) (kk255 (.tp []) h n)) fun kk253 =>
 wsB (wV v243 true) ((evLoad tbx 57 v250 h fun v => kk253 v h n)) (kk253 (.tp []) h n)) fun kk251 =>
 wsB (wV v243 true) ((evIa tbx 29 v246 v248 fun v => kk251 v h n)) (kk251 (.tp []) h n)) fun kk249 =>
 wsB (wV v243 true) (kk249 v241 h n) (kk249 (.tp []) h n)) fun kk247 =>
 wsB (wV v243 true) (kk247 v233 h n) (kk247 (.tp []) h n)) fun kk245 =>
 wsB (wV v243 true) (kk245 v237 h n) (kk245 (.tp []) h n)) fu (v11, v13, v15, v17, v19, ()) h n) fun kk10 =>
 lpC [0, 1, 4, 12, 13] (fun lo285 s284 h n =>
 pc s284 fun v286 s287 =>
 pc s287 fun v288 s289 =>
 pc s289 fun v290 s291 =>
 pc s291 fun v292 s293 =>
 pc s293 fun v294 s295 =>
 evBin2 tbx .leq 3 v292 v294 fun v296 =>
 jp (fun (v297 : V) h n =>
 jp (fun (v299 : V) h n =>
 jp (fun (v301 : V) h n =>
 jp (fun (v303 : V) h n =>
 jp (fun (v305 : V) h n =>
 jp (fun (v307 : V) h n =>
 jp (fun (v309 : V) h n =>
 jp (fun (v311 : V) h n =>
 jp (fun (v313 : V) h n =>
 thenR (wsB (wV v296 true) (evLoad tbx 57 v303 h fun w315 => cond (eqV 6 w315 v305) (okR) none) (cond (eqV 2 v305 (.tp [])) okR none)) (
 thenR (wsB (wV v296 true) (evLoad tbx 57 v311 h fun w316 => cond (eqV 6 w316 v313) (okR) none) (cond (eqV 2 v313 (.tp [])) okR none)) (
 jp (fun (v317 : V) h n =>
 jp (fun (v319 : V) h n =>
 evPick v296 v319 (.b false) fun v321 =>
 brB v321 (
 jp (fun (s322 : VT [0, 1, 4, 12, 13]) h n =>
 pc s322 fun v324 s325 =>
 pc s325 fun v326 s327 =>
 pc s327 fun v328 s329 =>
 pc s329 fun v330 s331 =>
 pc s331 fun v332 s333 =>
 lo285 (v324, v326, v328, v330, v332, ()) h n) fun kk323 =>
 evBin2 tbx .add 3 v292 (.i .i64 1) fun v334 =>
 kk323 (v286, v288, v290, v334, v294, ()) h n) (
 kk10 (v286, v288, v290, v292, v294, ()) h n)) fun kk320 =>
 wsB (wV v296 true) ((evBin2 tbx .lss 3 v317 (.i .i64 0) fun v => kk320 v h n)) (kk320 (.tp []) h n)) fun kk318 =>
 wsB (wV v296 true) ((evCall cf v297 [v305, v313] h n kk318)) (kk318 (.tp []) h n)))) fun kk314 =>
 wsB (wV v296 true) ((evLoad tbx 57 v311 h fun v => kk314 v h n)) (kk314 (.tp []) h n)) fun kk312 =>
 wsB (wV v296 true) ((evIa tbx 29 v307 v309 fun v => kk312 v h n)) (kk312 (.tp []) h n)) fun kk310 =>
 wsB (wV v296 true) (kk310 v288 h n) (kk310 (.tp []) h n)) fun kk308 =>
 wsB (wV v296 true) (kk308 v286 h n) (kk308 (.tp []) h n)) fun kk306 =>
 wsB (wV v296 true) ((evLoad tbx 57 v303 h fun v => kk306 v h n)) (kk306 (.tp []) h n)) fun kk304 =>
 wsB (wV v296 true) ((evIa tbx 29 v299 v301 fun v => kk304 v h n)) (kk304 (.tp []) h n)) fun kk302 =>
 wsB (wV v296 true) (kk302 v292 h n) (kk302 (.tp []) h n)) fun kk300 =>
 wsB (wV v296 true) (kk300 v286 h n) (kk300 (.tp []) h n)) fun kk298 =>
 wsB (wV v296 true) (kk298 v290 h n) (kk298 (.tp []) h n)) fu (a0, a1, a4, v7, v8, ()) h n) none) none
noncomputable def e319 : FE := ⟨Tryz.f319, bd Tryz.f319, [0, 1, 2, 3, 4], [10, 11], (.q .z (.q .z (.q .z (.q (.b [0, 1, 4, 12, 13] (.l [0, 1, 4, 12, 13] (.q (.q .z (.c .z .z)) (.b [0, 1, 4, 12, 13] .z)))) (.q (.b [0, 1, 4, 12, 13] (.l [0, 1, 4, 12, 13] (.q (.q .z (.c .z .z)) (.b [0, 1, 4, 12, 13] .z)))) (.q (.q .z (.c (.q .z (.q .z .z)) .z)) (.q .z (.q .z (.q .z (.q (.b [0, 1, 13] (.l [0, 1, 4, 12, 13] (.b [0, 1, 4, 12, 13] (.q (.b [0, 1, 4, 12, 13] (.l [0, 1, 4, 12, 13] (.q (.q .z (.c .z .z)) (.b [0, 1, 4, 12, 13] .z)))) (.q (.b [0, 1, 4, 12, 13] (.l [0, 1, 4, 12, 13] (.q (.q .z (.c .z .z)) (.b [0, 1, 4, 12, 13] .z)))) (.q (.q .z (.c .z .z)) (.q .z (.q .z .z)))))))) (.q .z (.q .z .z))))))))))))⟩
theorem q319 (fu : Nat) (cf : CF) (a0 a1 a2 a3 a4 : V) (h : H) (n : Id) (k : KV) : evF fu cf e319 [a0, a1, a2, a3, a4] h n k = s319 fu cf a0 a1 a2 a3 a4 h n k := by kernel_rfl
theorem p319 : PfOk Tryz.prog tbx mtab 319 (w5 (s319 fuX)) := pfo e319 Tryz.func319 (by kernel_rfl) (w5_ok (q319 fuX))
noncomputable def s320 (fu : Nat) (cf : CF) (a0 a1 : V) (h : H) (n : Id) (k : KV) : R :=
 cf 293 [a0] h n fun v1 h n =>
 jp (fun (s2 : VT [0, 1]) h n =>
 pc s2 fun v4 s5 =>
 pc s5 fun v6 s7 =>
 evNc' v4 fun v8 =>
 evFa tbx 314 1 v8 fun v9 =>
 evLoad tbx 73 v9 h fun v10 =>
 evCap tbx 73 v10 fun v11 =>
 evNc' v4 fun v12 =>
 evFa tbx 314 1 v12 fun v13 =>
 evLoad tbx 73 v13 h fun v14 =>
 evLen tbx 73 v14 fun v15 =>
 evBin2 tbx .sub 3 v11 v15 fun v16 =>
 evBin2 tbx .lss 3 v16 v6 fun v17 =>
 evLoad tbx 73 v9 h fun w20 => cond (eqV 6 w20 v10) (
 evLoad tbx 73 v13 h fun w19 => cond (eqV 6 w19 v14) (
 brB v17 (
 cf 329 [v4, v6] h n fun v18 h n =>
 k (.tp []) h n) (
 k (.tp []) h n)) none) none) fun kk3 =>
 evBin2 tbx .lss 3 a1 (.i .i64 0) fun v21 =>
 brB v21 (
 none) (
 kk3 (a0, a1, ()) h n)
noncomputable def e320 : FE := ⟨Tryz.f320, bd Tryz.f320, [0, 1], [], (.q .z (.s [0, 1] (.q .z (.c .z .z)) (.q .z (.c .z .z))))⟩
theorem q320 (fu : Nat) (cf : CF) (a0 a1 : V) (h : H) (n : Id) (k : KV) : evF fu cf e320 [a0, a1] h n k = s320 fu cf a0 a1 h n k := by kernel_rfl
theorem p320 : PfOk Tryz.prog tbx mtab 320 (w2 (s320 fuX)) := pfo e320 Tryz.func320 (by kernel_rfl) (w2_ok (q320 fuX))
noncomputable def s321 (fu : Nat) (cf : CF) (a0 a1 : V) (h : H) (n : Id) (k : KV) : R :=
 cf 330 [a0, a1] h n fun v1 h n =>
 evBin2 tbx .geq 3 v1 (.i .i64 0) fun v2 =>
 k v2 h n
noncomputable def e321 : FE := ⟨Tryz.f321, bd Tryz.f321, [0, 1], [4], (.q .z (.q .z .z))⟩
theorem q321 (fu : Nat) (cf : CF) (a0 a1 : V) (h : H) (n : Id) (k : KV) : evF fu cf e321 [a0, a1] h n k = s321 fu cf a0 a1 h n k := by kernel_rfl
theorem p321 : PfOk Tryz.prog tbx mtab 321 (w2 (s321 fuX)) := pfo e321 Tryz.func321 (by kernel_rfl) (w2_ok (q321 fuX))
noncomputable def s328 (fu : Nat) (cf : CF) (a0 a1 a2 a3 a4 a5 : V) (h : H) (n : Id) (k : KV) : R :=
 cf 331 [a0, a1, a2, a4, a5] h n fun v1 h n =>
 evExt 0 v1 fun v2 =>
 evExt 1 v1 fun v3 =>
 cf 331 [a0, v3, a3, a4, a5] h n fun v4 h n =>
 evExt 0 v4 fun v5 =>
 evExt 1 v4 fun v6 =>
 cf 331 [a0, v2, v5, a4, a5] h n fun v7 h n =>
 evExt 0 v7 fun v8 =>
 evExt 1 v7 fun v9 =>
 k v9 h n
noncomputable def e328 : FE := ⟨Tryz.f328, bd Tryz.f328, [0, 1, 2, 3, 4, 5], [12], (.q .z (.q .z (.q .z (.q .z (.q .z .z)))))⟩
theorem q328 (fu : Nat) (cf : CF) (a0 a1 a2 a3 a4 a5 : V) (h : H) (n : Id) (k : KV) : evF fu cf e328 [a0, a1, a2, a3, a4, a5] h n k = s328 fu cf a0 a1 a2 a3 a4 a5 h n k := by kernel_rfl
theorem p328 : PfOk Tryz.prog tbx mtab 328 (w6 (s328 fuX)) := pfo e328 Tryz.func328 (by kernel_rfl) (w6_ok (q328 fuX))
noncomputable def s329 (fu : Nat) (cf : CF) (a0 a1 : V) (h : H) (n : Id) (k : KV) : R :=
 evNc' a0 fun v1 =>
 evFa tbx 314 1 v1 fun v2 =>
 evLoad tbx 73 v2 h fun v3 =>
 evCap tbx 73 v3 fun v4 =>
 evBin2 tbx .mul 3 (.i .i64 2) v4 fun v5 =>
 evBin2 tbx .add 3 v5 a1 fun v6 =>
 evNc' a0 fun v7 =>
 evFa tbx 314 1 v7 fun v8 =>
 evLoad tbx 73 v8 h fun v9 =>
 evLen tbx 73 v9 fun v10 =>
 evLoad tbx 73 v2 h fun w21 => cond (eqV 6 w21 v3) (
 evLoad tbx 73 v8 h fun w20 => cond (eqV 6 w20 v9) (
 cf 332 [v6] h n fun v11 h n =>
 evSlc tbx 73 v11 none (some v10) fun v12 =>
 evLoad tbx 73 v8 h fun w19 => cond (eqV 6 w19 v9) (
 evNc' a0 fun v13 =>
 evFa tbx 314 1 v13 fun v14 =>
 evLoad tbx 73 v14 h fun v15 =>
 evCopy tbx 73 v12 v15 fun v16 =>
 evNc' a0 fun v17 =>
 evFa tbx 314 1 v17 fun v18 =>
 evStore tbx 73 v18 v12 h n fun _ h n =>
 k (.tp []) h n) none) none) none
noncomputable def e329 : FE := ⟨Tryz.f329, bd Tryz.f329, [0, 1], [], (.q .z (.q .z .z))⟩
theorem q329 (fu : Nat) (cf : CF) (a0 a1 : V) (h : H) (n : Id) (k : KV) : evF fu cf e329 [a0, a1] h n k = s329 fu cf a0 a1 h n k := by kernel_rfl
theorem p329 : PfOk Tryz.prog tbx mtab 329 (w2 (s329 fuX)) := pfo e329 Tryz.func329 (by kernel_rfl) (w2_ok (q329 fuX))
noncomputable def s330 (fu : Nat) (cf : CF) (a0 a1 : V) (h : H) (n : Id) (k : KV) : R :=
 evLen tbx 71 a0 fun v1 =>
 jp (fun (s2 : VT []) h n =>
 k (.i .i64 (-1)) h n) fun kk3 =>
 lpC [0, 1, 7, 8] (fun lo5 s4 h n =>
 pc s4 fun v6 s7 =>
 pc s7 fun v8 s9 =>
 pc s9 fun v10 s11 =>
 pc s11 fun v12 s13 =>
 evBin2 tbx .lss 3 v12 v10 fun v14 =>
 brB v14 (
 jp (fun (s15 : VT [0, 1, 7, 8]) h n =>
 pc s15 fun v17 s18 =>
 pc s18 fun v19 s20 =>
 pc s20 fun v21 s22 =>
 pc s22 fun v23 s24 =>
 evBin2 tbx .add 3 v23 (.i .i64 1) fun v25 =>
 lo5 (v17, v19, v21, v25, ()) h n) fun kk16 =>
 evIa tbx 71 v6 v12 fun v26 =>
 evLoad tbx 9 v26 h fun v27 =>
 evBin2 tbx .eql 9 v8 v27 fun v28 =>
 brB v28 (
 k v12 h n) (
 kk16 (v6, v8, v10, v12, ()) h n)) (
 kk3 (()) h n)) fu (a0, a1, v1, (.i .i64 0), ()) h n
noncomputable def e330 : FE := ⟨Tryz.f330, bd Tryz.f330, [0, 1], [4], (.q .z (.q (.q .z (.b [] (.l [0, 1, 7, 8] (.q .z (.q (.c .z .z) (.q (.b [0, 1, 7, 8] (.q .z (.q .z (.c (.q .z .z) .z)))) .z)))))) (.q .z .z)))⟩
theorem q330 (fu : Nat) (cf : CF) (a0 a1 : V) (h : H) (n : Id) (k : KV) : evF fu cf e330 [a0, a1] h n k = s330 fu cf a0 a1 h n k := by kernel_rfl
theorem p330 : PfOk Tryz.prog tbx mtab 330 (w2 (s330 fuX)) := pfo e330 Tryz.func330 (by kernel_rfl) (w2_ok (q330 fuX))
noncomputable def s331 (fu : Nat) (cf : CF) (a0 a1 a2 a3 a4 : V) (h : H) (n : Id) (k : KV) : R :=
 evIa tbx 29 a0 a2 fun v1 =>
 evLoad tbx 57 v1 h fun v2 =>
 evIa tbx 29 a0 a1 fun v3 =>
 evLoad tbx 57 v3 h fun v4 =>
 evLoad tbx 57 v1 h fun w12 => cond (eqV 6 w12 v2) (
 evLoad tbx 57 v3 h fun w11 => cond (eqV 6 w11 v4) (
 evCall cf a4 [v2, v4] h n fun v5 h n =>
 evBin2 tbx .lss 3 v5 (.i .i64 0) fun v6 =>
 brB v6 (
 evNc' a3 fun v7 =>
 evLoad tbx 3 v7 h fun v8 =>
 evBin2 tbx .add 3 v8 (.i .i64 1) fun v9 =>
 evNc' a3 fun v10 =>
 evStore tbx 3 v10 v9 h n fun _ h n =>
 k (.tp [a2, a1]) h n) (
 k (.tp [a1, a2]) h n)) none) none
noncomputable def e331 : FE := ⟨Tryz.f331, bd Tryz.f331, [0, 1, 2, 3, 4], [10, 11], (.q .z (.q (.q .z (.c (.q .z (.q .z .z)) .z)) (.q .z .z)))⟩
theorem q331 (fu : Nat) (cf : CF) (a0 a1 a2 a3 a4 : V) (h : H) (n : Id) (k : KV) : evF fu cf e331 [a0, a1, a2, a3, a4] h n k = s331 fu cf a0 a1 a2 a3 a4 h n k := by kernel_rfl
theorem p331 : PfOk Tryz.prog tbx mtab 331 (w5 (s331 fuX)) := pfo e331 Tryz.func331 (by kernel_rfl) (w5_ok (q331 fuX))
end Go.Proofs.Nw.X
end
section
/-
  DERIVED: THE SHELF's CONTRACTS AT THIS DUMP, IN PLAIN WORDS (tools/lay-plain.mjs out of 'TryzShelf.lean', which tools/lay-shelf.mjs wrote): THE SAME DECLARATIONS UNDER THE SAME NAMES: 'import', 'namespace', 'open', 'def', 'theorem' AND NOTHING ELSE: no command of the shelf's: FOR A HAND-IN. Each laying: the table of numbers ('.._ren') and one theorem, a field a fact of the dump's own or the kernel's comparison; each contract: ONE APPLICATION.
-/
namespace Go.Proofs
open Go.Shelf
def Tryz.lays219_ren : Go.Shelf.Ren := ⟨fun | 219 => 138 | 217 => 137 | 225 => 192 | 224 => 193 | 267 => 194 | 266 => 191 | 314 => 241 | n => n, fun | 9 => 9 | 3 => 3 | 4 => 4 | 5 => 5 | 46 => 22 | 146 => 298 | 51 => 146 | n => n, fun | 1 => 0 | n => n⟩
theorem Tryz.lays219 : Go.Proofs.Lays.n219 Tryz.prog Tryz.lays219_ren := {
  mixed := by kernel_rfl
  f217 := Tryz.func137.trans (congrArg some (by kernel_rfl))
  f219 := Tryz.func138.trans (congrArg some (by kernel_rfl))
  f224 := Tryz.func193.trans (congrArg some (by kernel_rfl))
  f225 := Tryz.func192.trans (congrArg some (by kernel_rfl))
  f266 := Tryz.func191.trans (congrArg some (by kernel_rfl))
  f267 := Tryz.func194.trans (congrArg some (by kernel_rfl))
  f314 := Tryz.func241.trans (congrArg some (by kernel_rfl))
  t3 := Tryz.underlying3
  a3 := Tryz.isAgg3
  z3 := Tryz.sizeOf3
  v3 := Tryz.zeroValue3
  t4 := Tryz.underlying4
  a4 := Tryz.isAgg4
  z4 := Tryz.sizeOf4
  v4 := Tryz.zeroValue4
  t5 := Tryz.underlying5
  a5 := Tryz.isAgg5
  z5 := Tryz.sizeOf5
  v5 := Tryz.zeroValue5
  t9 := Tryz.underlying9
  a9 := Tryz.isAgg9
  z9 := Tryz.sizeOf9
  v9 := Tryz.zeroValue9
  t46 := Tryz.underlying22
  a46 := Tryz.isAgg22
  z46 := Tryz.sizeOf22
  v46 := Tryz.zeroValue22
  t51 := Tryz.underlying146
  a51 := Tryz.isAgg146
  z51 := Tryz.sizeOf146
  v51 := Tryz.zeroValue146
  t146 := Tryz.underlying298
  a146 := Tryz.isAgg298
  z146 := Tryz.sizeOf298
  v146 := Tryz.zeroValue298
  g1 := by kernel_rfl }
open Go.RowKit Go.Lib in
theorem Tryz.stringslite_Index (s sub : ByteArray) (m : Int) (w : World) (hs : s.size < 4294967281) (hm : w.cell? ⟨0, 0, none⟩ = some (.int .i64 m)) :
    Calls Tryz.prog 138 #[.string s, .string sub] w fun e w' => e = .returned (.int .i64 (Lib.index s.data.toList sub.data.toList)) ∧ w' = w := Any.stringslite_Index Tryz.lays219 s sub m w hs hm
def Tryz.lays153_ren : Go.Shelf.Ren := ⟨fun | 153 => 224 | 152 => 268 | 226 => 269 | 227 => 238 | 228 => 270 | 137 => 93 | 119 => 303 | 224 => 193 | 225 => 192 | 217 => 137 | 266 => 191 | n => n, fun | 9 => 9 | 3 => 3 | 4 => 4 | 5 => 5 | 21 => 21 | 117 => 294 | 116 => 293 | 0 => 0 | 46 => 22 | 124 => 297 | n => n, fun | n => n⟩
theorem Tryz.lays153 : Go.Proofs.Lays.n153 Tryz.prog Tryz.lays153_ren := {
  mixed := by kernel_rfl
  f119 := Tryz.func303.trans (congrArg some (by kernel_rfl))
  f137 := Tryz.func93.trans (congrArg some (by kernel_rfl))
  f152 := Tryz.func268.trans (congrArg some (by kernel_rfl))
  f153 := Tryz.func224.trans (congrArg some (by kernel_rfl))
  f217 := Tryz.func137.trans (congrArg some (by kernel_rfl))
  f224 := Tryz.func193.trans (congrArg some (by kernel_rfl))
  f225 := Tryz.func192.trans (congrArg some (by kernel_rfl))
  f226 := Tryz.func269.trans (congrArg some (by kernel_rfl))
  f227 := Tryz.func238.trans (congrArg some (by kernel_rfl))
  f228 := Tryz.func270.trans (congrArg some (by kernel_rfl))
  f266 := Tryz.func191.trans (congrArg some (by kernel_rfl))
  t0 := Tryz.underlying0
  a0 := Tryz.isAgg0
  z0 := Tryz.sizeOf0
  v0 := Tryz.zeroValue0
  t3 := Tryz.underlying3
  a3 := Tryz.isAgg3
  z3 := Tryz.sizeOf3
  v3 := Tryz.zeroValue3
  t4 := Tryz.underlying4
  a4 := Tryz.isAgg4
  z4 := Tryz.sizeOf4
  v4 := Tryz.zeroValue4
  t5 := Tryz.underlying5
  a5 := Tryz.isAgg5
  z5 := Tryz.sizeOf5
  v5 := Tryz.zeroValue5
  t9 := Tryz.underlying9
  a9 := Tryz.isAgg9
  z9 := Tryz.sizeOf9
  v9 := Tryz.zeroValue9
  t21 := Tryz.underlying21
  a21 := Tryz.isAgg21
  z21 := Tryz.sizeOf21
  v21 := Tryz.zeroValue21
  t46 := Tryz.underlying22
  a46 := Tryz.isAgg22
  z46 := Tryz.sizeOf22
  v46 := Tryz.zeroValue22
  t116 := Tryz.underlying293
  a116 := Tryz.isAgg293
  z116 := Tryz.sizeOf293
  t117 := Tryz.underlying294
  a117 := Tryz.isAgg294
  z117 := Tryz.sizeOf294
  v117 := Tryz.zeroValue294
  t124 := Tryz.underlying297
  a124 := Tryz.isAgg297
  z124 := Tryz.sizeOf297
  v124 := Tryz.zeroValue297 }
open Go.RowKit Go.Lib in
theorem Tryz.strings_IndexAny (hv116 : ∀ w, (zeroValue 293).run Tryz.prog w = .ok (.agg (Array.replicate 256 (.bool false))) w) (s chars : ByteArray) (w : World) (hs : s.size < 4294967281) (hcs : chars.size < 4294967281) (has : ∀ (j : Nat) b, s.data.toList[j]? = some b → b.toNat < 128) (hac : ∀ (j : Nat) b, chars.data.toList[j]? = some b → b.toNat < 128) :
    Calls Tryz.prog 224 #[.string s, .string chars] w fun e w' => e = .returned (.int .i64 (Lib.indexAny s.data.toList chars.data.toList)) ∧ Below w.heap.size w w' := Any.strings_IndexAny Tryz.lays153 hv116 (by kernel_rfl) s chars w hs hcs has hac
end Go.Proofs
end
section
/- XGE: seat F's functions by contract. -/
open Go Go.RowKit Go.Proofs
set_option linter.unusedVariables false
set_option linter.unusedSimpArgs false
namespace Go.Proofs.Nw.X
open Go.Proofs.Nw.K
noncomputable abbrev gMkz5 : Fn1 := gMkz 5
theorem zero293 : ∀ w, (zeroValue 293).run Tryz.prog w = .ok (.agg (Array.replicate 256 (.bool false))) w := by
  intro w
  have h : (Tryz.prog.info? 293).bind (·.zero) = some (.agg (Array.replicate 256 (.bool false))) := by kernel_rfl
  cases hi : Tryz.prog.info? 293 with
  | none => rw [hi] at h; cases h
  | some i =>
    rw [hi] at h
    have h : i.zero = some (.agg (Array.replicate 256 (.bool false))) := h
    simp [zeroValue, typeInfo, hi, h]
theorem sd191 : Sd Tryz.prog 191 gIx := sd_ix fun s c w => by
  rw [run_callFunc_extern Tryz.func191 (by kernel_rfl) (by kernel_rfl) (by kernel_rfl) (e := Extern.BytealgIndexByte.indexByte) (by kernel_rfl), Lib.run_indexByteString]; rfl
theorem sd311 : Sd Tryz.prog 311 gId := sd_id (tx_eiok (311, ()) (by show (311, ()) ∈ [(311, ())]; simp))
theorem sd332 : Sd Tryz.prog 332 gMkz5 := sd_mkz fun m w hm => by
  obtain ⟨cs, h1, h2, h3⟩ := Lib.run_makeNoZero (P := Tryz.prog) w #[3] 73 5 (by kernel_rfl) m hm
  exact ⟨cs, by rw [run_callFunc_extern Tryz.func332 (by kernel_rfl) (by kernel_rfl) (by kernel_rfl) (e := Extern.BytealgMakeNoZero.makeNoZero #[3] #[73]) (by kernel_rfl), h1]; rfl, h2, h3⟩
theorem sd224 : Sd Tryz.prog 224 gIa := sd_ia (by kernel_rfl) fun s chars w h1 h2 h3 h4 => Tryz.strings_IndexAny zero293 s chars w h1 h2 h3 h4
theorem sd138 : Sd Tryz.prog 138 gSi := sd_si (by kernel_rfl) fun s sub m w h1 h2 => Tryz.stringslite_Index s sub m w h1 h2
end Go.Proofs.Nw.X
end
section
/- printed by xg.py: seat F's evaluator. -/
open Go Go.RowKit Go.Proofs
set_option linter.unusedVariables false
set_option maxRecDepth 100000
namespace Go.Proofs.Nw.X
open Go.Proofs.Nw.K
noncomputable def fns : BT (CF → Fn1) := (.n 156 (w2 (s156 fuX)) (.n 87 (w1 (s87 fuX)) (.n 49 (w1 (s49 fuX)) (.n 33 (w2 (s33 fuX)) (.n 22 (w2 (s22 fuX)) (.n 16 (w1 (s16 fuX)) (.n 6 (w3 (s6 fuX)) (.n 5 (w2 (s5 fuX)) .e .e) (.n 8 (w2 (s8 fuX)) .e .e)) (.n 19 (w1 (s19 fuX)) (.n 18 (w1 (s18 fuX)) .e .e) (.n 20 (w2 (s20 fuX)) .e .e))) (.n 26 (w1 (s26 fuX)) (.n 24 (w2 (s24 fuX)) (.n 23 (w1 (s23 fuX)) .e .e) (.n 25 (w0 (s25 fuX)) .e .e)) (.n 32 (w2 (s32 fuX)) (.n 31 (w1 (s31 fuX)) .e .e) .e))) (.n 40 (w2 (s40 fuX)) (.n 37 (w2 (s37 fuX)) (.n 35 (w1 (s35 fuX)) (.n 34 (w1 (s34 fuX)) .e .e) (.n 36 (w2 (s36 fuX)) .e .e)) (.n 39 (w2 (s39 fuX)) (.n 38 (w1 (s38 fuX)) .e .e) .e)) (.n 44 (w1 (s44 fuX)) (.n 42 (w1 (s42 fuX)) (.n 41 (w1 (s41 fuX)) .e .e) (.n 43 (w1 (s43 fuX)) .e .e)) (.n 46 (w1 (s46 fuX)) (.n 45 (w2 (s45 fuX)) .e .e) .e)))) (.n 64 (w1 (s64 fuX)) (.n 57 (w2 (s57 fuX)) (.n 53 (w5 (s53 fuX)) (.n 51 (w1 (s51 fuX)) (.n 50 (w1 (s50 fuX)) .e .e) (.n 52 (w1 (s52 fuX)) .e .e)) (.n 55 (w1 (s55 fuX)) (.n 54 (w1 (s54 fuX)) .e .e) (.n 56 (w2 (s56 fuX)) .e .e))) (.n 61 (w2 (s61 fuX)) (.n 59 (w1 (s59 fuX)) (.n 58 (w1 (s58 fuX)) .e .e) (.n 60 (w2 (s60 fuX)) .e .e)) (.n 63 (w1 (s63 fuX)) (.n 62 (w1 (s62 fuX)) .e .e) .e))) (.n 76 (w1 (s76 fuX)) (.n 73 (w1 (s73 fuX)) (.n 66 (w1 (s66 fuX)) (.n 65 (w3 (s65 fuX)) .e .e) (.n 67 (w1 (s67 fuX)) .e .e)) (.n 75 (w1 (s75 fuX)) (.n 74 (w1 (s74 fuX)) .e .e) .e)) (.n 84 (w5 (s84 fuX)) (.n 80 (w4 (s80 fuX)) (.n 77 (w4 (s77 fuX)) .e .e) (.n 82 (w4 (s82 fuX)) .e .e)) (.n 86 (w1 (s86 fuX)) (.n 85 (w1 (s85 fuX)) .e .e) .e))))) (.n 123 (w1 (s123 fuX)) (.n 102 (w2 (s102 fuX)) (.n 95 (w1 (s95 fuX)) (.n 91 (w2 (s91 fuX)) (.n 89 (w1 (s89 fuX)) (.n 88 (w2 (s88 fuX)) .e .e) (.n 90 (w1 (s90 fuX)) .e .e)) (.n 93 (w2 (s93 fuX)) (.n 92 (w1 (s92 fuX)) .e .e) (.n 94 (w2 (s94 fuX)) .e .e))) (.n 99 (w2 (s99 fuX)) (.n 97 (w1 (s97 fuX)) (.n 96 (w1 (s96 fuX)) .e .e) (.n 98 (w3 (s98 fuX)) .e .e)) (.n 101 (w2 (s101 fuX)) (.n 100 (w2 (s100 fuX)) .e .e) .e))) (.n 109 (w1 (s109 fuX)) (.n 106 (w1 (s106 fuX)) (.n 104 (w2 (s104 fuX)) (.n 103 (w2 (s103 fuX)) .e .e) (.n 105 (w1 (s105 fuX)) .e .e)) (.n 108 (w3 (s108 fuX)) (.n 107 (w2 (s107 fuX)) .e .e) .e)) (.n 113 (w1 (s113 fuX)) (.n 111 (w2 (s111 fuX)) (.n 110 (w1 (s110 fuX)) .e .e) (.n 112 (w1 (s112 fuX)) .e .e)) (.n 115 (w1 (s115 fuX)) (.n 114 (w1 (s114 fuX)) .e .e) .e)))) (.n 142 (w2 (s142 fuX)) (.n 135 (w1 (s135 fuX)) (.n 131 (w2 (s131 fuX)) (.n 129 (w6 (s129 fuX)) (.n 124 (w1 (s124 fuX)) .e .e) (.n 130 (w2 (s130 fuX)) .e .e)) (.n 133 (w1 (s133 fuX)) (.n 132 (w1 (s132 fuX)) .e .e) (.n 134 (w1 (s134 fuX)) .e .e))) (.n 139 (w1 (s139 fuX)) (.n 137 (w2 (s137 fuX)) (.n 136 (w2 (s136 fuX)) .e .e) (.n 138 (fun _ => gSi) .e .e)) (.n 141 (w2 (s141 fuX)) (.n 140 (w1 (s140 fuX)) .e .e) .e))) (.n 149 (w3 (s149 fuX)) (.n 146 (w4 (s146 fuX)) (.n 144 (w2 (s144 fuX)) (.n 143 (w1 (s143 fuX)) .e .e) (.n 145 (w3 (s145 fuX)) .e .e)) (.n 148 (w2 (s148 fuX)) (.n 147 (w3 (s147 fuX)) .e .e) .e)) (.n 153 (w3 (s153 fuX)) (.n 151 (w4 (s151 fuX)) (.n 150 (w3 (s150 fuX)) .e .e) (.n 152 (w3 (s152 fuX)) .e .e)) (.n 155 (w3 (s155 fuX)) (.n 154 (w5 (s154 fuX)) .e .e) .e)))))) (.n 238 (w1 (s238 fuX)) (.n 203 (w2 (s203 fuX)) (.n 171 (w2 (s171 fuX)) (.n 164 (w2 (s164 fuX)) (.n 160 (w1 (s160 fuX)) (.n 158 (w1 (s158 fuX)) (.n 157 (w2 (s157 fuX)) .e .e) (.n 159 (w1 (s159 fuX)) .e .e)) (.n 162 (w1 (s162 fuX)) (.n 161 (w2 (s161 fuX)) .e .e) (.n 163 (w2 (s163 fuX)) .e .e))) (.n 168 (w1 (s168 fuX)) (.n 166 (w3 (s166 fuX)) (.n 165 (w2 (s165 fuX)) .e .e) (.n 167 (w2 (s167 fuX)) .e .e)) (.n 170 (w2 (s170 fuX)) (.n 169 (w2 (s169 fuX)) .e .e) .e))) (.n 190 (w2 (s190 fuX)) (.n 186 (w5 (s186 fuX)) (.n 174 (w2 (s174 fuX)) (.n 172 (w1 (s172 fuX)) .e .e) (.n 180 (w2 (s180 fuX)) .e .e)) (.n 188 (w1 (s188 fuX)) (.n 187 (w2 (s187 fuX)) .e .e) .e)) (.n 200 (w1 (s200 fuX)) (.n 195 (w1 (s195 fuX)) (.n 191 (fun _ => gIx) .e .e) (.n 196 (w2 (s196 fuX)) .e .e)) (.n 202 (w1 (s202 fuX)) (.n 201 (w1 (s201 fuX)) .e .e) .e)))) (.n 218 (w2 (s218 fuX)) (.n 211 (w2 (s211 fuX)) (.n 207 (w1 (s207 fuX)) (.n 205 (w2 (s205 fuX)) (.n 204 (w2 (s204 fuX)) .e .e) (.n 206 (w1 (s206 fuX)) .e .e)) (.n 209 (w2 (s209 fuX)) (.n 208 (w1 (s208 fuX)) .e .e) (.n 210 (w1 (s210 fuX)) .e .e))) (.n 215 (w3 (s215 fuX)) (.n 213 (w3 (s213 fuX)) (.n 212 (w6 (s212 fuX)) .e .e) (.n 214 (w3 (s214 fuX)) .e .e)) (.n 217 (w1 (s217 fuX)) (.n 216 (w1 (s216 fuX)) .e .e) .e))) (.n 225 (w2 (s225 fuX)) (.n 222 (w2 (s222 fuX)) (.n 220 (w4 (s220 fuX)) (.n 219 (w2 (s219 fuX)) .e .e) (.n 221 (w3 (s221 fuX)) .e .e)) (.n 224 (fun _ => gIa) (.n 223 (w2 (s223 fuX)) .e .e) .e)) (.n 234 (w2 (s234 fuX)) (.n 227 (w1 (s227 fuX)) (.n 226 (w2 (s226 fuX)) .e .e) (.n 228 (w2 (s228 fuX)) .e .e)) (.n 237 (w2 (s237 fuX)) (.n 236 (w1 (s236 fuX)) .e .e) .e))))) (.n 275 (w2 (s275 fuX)) (.n 259 (w2 (s259 fuX)) (.n 252 (w1 (s252 fuX)) (.n 248 (w2 (s248 fuX)) (.n 245 (w1 (s245 fuX)) (.n 244 (w2 (s244 fuX)) .e .e) (.n 246 (w1 (s246 fuX)) .e .e)) (.n 250 (w1 (s250 fuX)) (.n 249 (w2 (s249 fuX)) .e .e) (.n 251 (w2 (s251 fuX)) .e .e))) (.n 256 (w2 (s256 fuX)) (.n 254 (w1 (s254 fuX)) (.n 253 (w1 (s253 fuX)) .e .e) (.n 255 (w1 (s255 fuX)) .e .e)) (.n 258 (w1 (s258 fuX)) (.n 257 (w2 (s257 fuX)) .e .e) .e))) (.n 266 (w2 (s266 fuX)) (.n 263 (w1 (s263 fuX)) (.n 261 (w1 (s261 fuX)) (.n 260 (w2 (s260 fuX)) .e .e) (.n 262 (w2 (s262 fuX)) .e .e)) (.n 265 (w2 (s265 fuX)) (.n 264 (w1 (s264 fuX)) .e .e) .e)) (.n 270 (w2 (s270 fuX)) (.n 268 (w2 (s268 fuX)) (.n 267 (w2 (s267 fuX)) .e .e) (.n 269 (w1 (s269 fuX)) .e .e)) (.n 272 (w2 (s272 fuX)) (.n 271 (w2 (s271 fuX)) .e .e) .e)))) (.n 301 (w1 (s301 fuX)) (.n 294 (w5 (s294 fuX)) (.n 291 (w1 (s291 fuX)) (.n 287 (w2 (s287 fuX)) (.n 285 (w1 (s285 fuX)) .e .e) (.n 289 (w2 (s289 fuX)) .e .e)) (.n 293 (w1 (s293 fuX)) (.n 292 (w1 (s292 fuX)) .e .e) .e)) (.n 298 (w2 (s298 fuX)) (.n 296 (w2 (s296 fuX)) (.n 295 (w2 (s295 fuX)) .e .e) (.n 297 (w1 (s297 fuX)) .e .e)) (.n 300 (w1 (s300 fuX)) (.n 299 (w2 (s299 fuX)) .e .e) .e))) (.n 320 (w2 (s320 fuX)) (.n 315 (w4 (s315 fuX)) (.n 311 (fun _ => gId) (.n 302 (w2 (s302 fuX)) .e .e) (.n 312 (w4 (s312 fuX)) .e .e)) (.n 319 (w5 (s319 fuX)) (.n 317 (w4 (s317 fuX)) .e .e) .e)) (.n 330 (w2 (s330 fuX)) (.n 328 (w6 (s328 fuX)) (.n 321 (w2 (s321 fuX)) .e .e) (.n 329 (w2 (s329 fuX)) .e .e)) (.n 332 (fun _ => gMkz5) (.n 331 (w5 (s331 fuX)) .e .e) .e)))))))
theorem fnsOk : ∀ x ∈ fns.toL, PfOk Tryz.prog tbx mtab x.1 x.2 := (all_cons p5 (all_cons p6 (all_cons p8 (all_cons p16 (all_cons p18 (all_cons p19 (all_cons p20 (all_cons p22 (all_cons p23 (all_cons p24 (all_cons p25 (all_cons p26 (all_cons p31 (all_cons p32 (all_cons p33 (all_cons p34 (all_cons p35 (all_cons p36 (all_cons p37 (all_cons p38 (all_cons p39 (all_cons p40 (all_cons p41 (all_cons p42 (all_cons p43 (all_cons p44 (all_cons p45 (all_cons p46 (all_cons p49 (all_cons p50 (all_cons p51 (all_cons p52 (all_cons p53 (all_cons p54 (all_cons p55 (all_cons p56 (all_cons p57 (all_cons p58 (all_cons p59 (all_cons p60 (all_cons p61 (all_cons p62 (all_cons p63 (all_cons p64 (all_cons p65 (all_cons p66 (all_cons p67 (all_cons p73 (all_cons p74 (all_cons p75 (all_cons p76 (all_cons p77 (all_cons p80 (all_cons p82 (all_cons p84 (all_cons p85 (all_cons p86 (all_cons p87 (all_cons p88 (all_cons p89 (all_cons p90 (all_cons p91 (all_cons p92 (all_cons p93 (all_cons p94 (all_cons p95 (all_cons p96 (all_cons p97 (all_cons p98 (all_cons p99 (all_cons p100 (all_cons p101 (all_cons p102 (all_cons p103 (all_cons p104 (all_cons p105 (all_cons p106 (all_cons p107 (all_cons p108 (all_cons p109 (all_cons p110 (all_cons p111 (all_cons p112 (all_cons p113 (all_cons p114 (all_cons p115 (all_cons p123 (all_cons p124 (all_cons p129 (all_cons p130 (all_cons p131 (all_cons p132 (all_cons p133 (all_cons p134 (all_cons p135 (all_cons p136 (all_cons p137 (all_cons (pf_ext sd138) (all_cons p139 (all_cons p140 (all_cons p141 (all_cons p142 (all_cons p143 (all_cons p144 (all_cons p145 (all_cons p146 (all_cons p147 (all_cons p148 (all_cons p149 (all_cons p150 (all_cons p151 (all_cons p152 (all_cons p153 (all_cons p154 (all_cons p155 (all_cons p156 (all_cons p157 (all_cons p158 (all_cons p159 (all_cons p160 (all_cons p161 (all_cons p162 (all_cons p163 (all_cons p164 (all_cons p165 (all_cons p166 (all_cons p167 (all_cons p168 (all_cons p169 (all_cons p170 (all_cons p171 (all_cons p172 (all_cons p174 (all_cons p180 (all_cons p186 (all_cons p187 (all_cons p188 (all_cons p190 (all_cons (pf_ext sd191) (all_cons p195 (all_cons p196 (all_cons p200 (all_cons p201 (all_cons p202 (all_cons p203 (all_cons p204 (all_cons p205 (all_cons p206 (all_cons p207 (all_cons p208 (all_cons p209 (all_cons p210 (all_cons p211 (all_cons p212 (all_cons p213 (all_cons p214 (all_cons p215 (all_cons p216 (all_cons p217 (all_cons p218 (all_cons p219 (all_cons p220 (all_cons p221 (all_cons p222 (all_cons p223 (all_cons (pf_ext sd224) (all_cons p225 (all_cons p226 (all_cons p227 (all_cons p228 (all_cons p234 (all_cons p236 (all_cons p237 (all_cons p238 (all_cons p244 (all_cons p245 (all_cons p246 (all_cons p248 (all_cons p249 (all_cons p250 (all_cons p251 (all_cons p252 (all_cons p253 (all_cons p254 (all_cons p255 (all_cons p256 (all_cons p257 (all_cons p258 (all_cons p259 (all_cons p260 (all_cons p261 (all_cons p262 (all_cons p263 (all_cons p264 (all_cons p265 (all_cons p266 (all_cons p267 (all_cons p268 (all_cons p269 (all_cons p270 (all_cons p271 (all_cons p272 (all_cons p275 (all_cons p285 (all_cons p287 (all_cons p289 (all_cons p291 (all_cons p292 (all_cons p293 (all_cons p294 (all_cons p295 (all_cons p296 (all_cons p297 (all_cons p298 (all_cons p299 (all_cons p300 (all_cons p301 (all_cons p302 (all_cons (pf_ext sd311) (all_cons p312 (all_cons p315 (all_cons p317 (all_cons p319 (all_cons p320 (all_cons p321 (all_cons p328 (all_cons p329 (all_cons p330 (all_cons p331 (all_cons (pf_ext sd332) all_nil))))))))))))))))))))))))))))))))))))))))))))))))))))))))))))))))))))))))))))))))))))))))))))))))))))))))))))))))))))))))))))))))))))))))))))))))))))))))))))))))))))))))))))))))))))))))))))))))))))))))))))))))))))))))))))))))))))))
noncomputable def cfX (d : Nat) : CF := cfB fns d
theorem cfX_ok (d : Nat) (f : FuncId) : Sd Tryz.prog f (cfX d f) := cfB_ok fnsOk d f
end Go.Proofs.Nw.X
end
section
/- XR: from the evaluator's word to a call from whatever world. -/
open Go Go.RowKit Go.Proofs
set_option linter.unusedVariables false
namespace Go.Proofs.Nw.X
open Go.Proofs.Nw.K
noncomputable abbrev n0 : Id := [.a, .a, .a, .a, .a, .a, .a, .a]
noncomputable abbrev kEnd : KV := fun v _ _ => some v
theorem HR.begin {W : World} (hG : Gi W) : HR { w := W, pr := fun b => b < W.heap.size, lt := fun _ h => h, gp := hG.pos, gi := hG } (fun _ => none) .e n0 W where
  below := ⟨rfl, rfl, rfl, Nat.le_refl _, fun _ _ => rfl⟩
  len := rfl
  dom := fun o pl h => by cases h
  inj := fun o o' pl pl' _ _ h => by cases h
  obj := fun o pl x h => by cases h
  rsv := fun o pl h => by cases h
  lo := Nat.zero_le _
theorem law_run {P : Program} {f : FuncId} {g : Fn1} (hc : callable P f = true) (h : Sd P f g) {vs : List V} {us : List Value} (hv : g vs .e n0 kEnd = some (.b true)) {W : World} (hG : Gi W) (hu : RVs (fun _ => none) vs us) :
    Calls P f us.toArray W fun e W' => e = .returned (.bool true) ∧ Below W.heap.size W W' := by
  obtain ⟨v, h', n', h1, h2⟩ := h vs .e n0 kEnd _ hv
  have h3 := h2 _ _ W us (HR.begin hG) hu
  rw [callFunc_run hc _ W] at h3
  refine Calls.mono h3 fun e W' ⟨u, he, ι', _, hb, hr⟩ => ?_
  obtain rfl : v = .b true := Option.some.inj h1
  obtain rfl : u = .bool true := hr
  exact ⟨he, hb.below.os, hb.below.tape, hb.below.output, hb.below.size, fun k hk => hb.below.block k hk⟩
def uN : Int → Nat
  | .ofNat m => m % 18446744073709551616
  | .negSucc m => 18446744073709551615 - m % 18446744073709551616
noncomputable abbrev vN (m : Nat) : V := .i .i64 (.ofNat m)
theorem uN_nat {m : Nat} (h : m < 18446744073709551616) : uN (.ofNat m) = m := Nat.mod_eq_of_lt h
end Go.Proofs.Nw.X
end
section
/- XW: a function without arguments that always answers true, by contract; the evaluator with such a function in it. -/
open Go Go.RowKit Go.Proofs
set_option linter.unusedVariables false
namespace Go.Proofs.Nw.X
open Go.Proofs.Nw.K
noncomputable def gTrue : Fn1 := fun vs h n k => List.casesOn (motive := fun _ => R) vs (k (.b true) h n) fun _ _ => none
theorem sd_true {P : Program} {f : FuncId} (hcall : callable P f = true) (hf : ∀ W : World, Gi W → Calls P f #[] W fun e W' => e = .returned (.bool true) ∧ Below W.heap.size W W') : Sd P f gTrue := by
  intro vs h n k r hr
  cases vs with
  | cons a vs => cases hr
  | nil =>
    refine ⟨.b true, h, n, hr, fun F ι w us hb hus => ?_⟩
    have hus : us = [] := hus
    subst hus
    rw [show (callFunc f ([] : List Value).toArray).run P w = .ok (.enter f ([] : List Value).toArray) w from callFunc_run hcall _ w]
    refine Calls.mono (hf w hb.below.gi) fun e w' he => ?_
    exact ⟨_, he.1, ι, Ext.refl _, hb.grown0 ⟨he.2.os, he.2.tape, he.2.output, he.2.size, fun k hk _ => he.2.block k hk⟩, rfl⟩
noncomputable def cfA (g : FuncId) (x : Fn1) (b : BT (CF → Fn1)) (d : Nat) : CF :=
  Nat.rec (motive := fun _ => CF) (fun _ _ _ _ _ => none) (fun _ ih f => cond (Nat.beq f g) x (Option.casesOn (motive := fun _ => Fn1) (b.get f) (fun _ _ _ _ => none) fun s => s ih)) d
theorem cfA_ok {P : Program} {T : Tab} {M : MTab} {g : FuncId} {x : Fn1} {b : BT (CF → Fn1)} (hx : Sd P g x) (H : ∀ x ∈ b.toL, PfOk P T M x.1 x.2) : ∀ d f, Sd P f (cfA g x b d f)
  | 0, f => fun vs h n k r hr => by cases hr
  | d + 1, f => by
    have e : cfA g x b (d + 1) f = cond (Nat.beq f g) x (Option.casesOn (motive := fun _ => Fn1) (b.get f) (fun _ _ _ _ => none) fun s => s (cfA g x b d)) := rfl
    rw [e]
    cases hb : Nat.beq f g with
    | true => have := Nat.eq_of_beq_eq_true hb; subst this; exact hx
    | false =>
      show Sd P f (Option.casesOn (motive := fun _ => Fn1) (b.get f) (fun _ _ _ _ => none) fun s => s (cfA g x b d))
      cases hg : b.get f with
      | none => exact fun vs h n k r hr => by cases hr
      | some s => exact H (f, s) (BT.get_mem hg) (cfA g x b d) (cfA_ok hx H d)
end Go.Proofs.Nw.X
end
section
/- printed by awk.py: function 25 by contract. -/
open Go Go.RowKit Go.Proofs
set_option maxRecDepth 100000
namespace Go.Proofs.Nw.X
open Go.Proofs.Nw.K
theorem aw25 : cfX 200 25 [] .e n0 kEnd = some (.b true) := by kernel_rfl
theorem run25 {W : World} (hG : Gi W) : Calls Tryz.prog 25 #[] W fun e W' => e = .returned (.bool true) ∧ Below W.heap.size W W' :=
  law_run (us := []) (vs := []) (by kernel_rfl) (cfX_ok 200 25) aw25 hG rfl
theorem sdAw : Sd Tryz.prog 25 gTrue := sd_true (by kernel_rfl) fun W hG => run25 hG
noncomputable def cfY (d : Nat) : CF := cfA 25 gTrue fns d
theorem cfY_ok (d : Nat) (f : FuncId) : Sd Tryz.prog f (cfY d f) := cfA_ok sdAw fnsOk d f
end Go.Proofs.Nw.X
end
