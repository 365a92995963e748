/- Bundle: NwXN3. -/
import Derived.Test.YtbooikopklijdaaGreatDoorNwN9
set_option linter.constructorNameAsVariable false
set_option linter.unusedVariables false
set_option linter.unusedSimpArgs false
set_option linter.unusedSectionVars false
section
/- printed by xg.py: seat F's functions, 3. -/
open Go Go.RowKit Go.Proofs
set_option linter.unusedVariables false
set_option maxRecDepth 100000
namespace Go.Proofs.Nw.X
open Go.Proofs.Nw.K
noncomputable def s97 (fu : Nat) (cf : CF) (a0 : V) (h : H) (n : Id) (k : KV) : R :=
 jp (fun (s3 : VT [2]) h n =>
 pc s3 fun v6 s7 =>
 k v6 h n) fun kk1 =>
 jp (lpC [0, 3, 4] (fun lo5 s4 h n =>
 pc s4 fun v8 s9 =>
 pc s9 fun v10 s11 =>
 pc s11 fun v12 s13 =>
 evBin2 tbx .add 3 v12 (.i .i64 1) fun v14 =>
 evLen tbx 114 v8 fun v15 =>
 evBin2 tbx .eql 3 v14 v15 fun v16 =>
 brB v16 (
 k (.b true) h n) (
 evIa tbx 114 v8 v14 fun v17 =>
 evFa tbx 162 0 v17 fun v18 =>
 evLoad tbx 3 v18 h fun v19 =>
 cf 144 [v10, v19] h n fun v20 h n =>
 evExt 0 v20 fun v21 =>
 evExt 1 v20 fun v22 =>
 evUn .not v22 fun v23 =>
 jp (fun (v24 : V) h n =>
 jp (fun (v26 : V) h n =>
 jp (fun (v28 : V) h n =>
 jp (fun (v30 : V) h n =>
 thenR (wsB (wV v23 false) (evLoad tbx 162 v28 h fun w32 => cond (eqV 6 w32 v30) (okR) none) (cond (eqV 2 v30 (.tp [])) okR none)) (
 jp (fun (v33 : V) h n =>
 jp (fun (v35 : V) h n =>
 evPick v23 (.b true) v35 fun v37 =>
 jp (fun (v38 : V) h n =>
 jp (fun (v40 : V) h n =>
 jp (fun (v42 : V) h n =>
 jp (fun (v44 : V) h n =>
 jp (fun (v46 : V) h n =>
 jp (fun (v48 : V) h n =>
 jp (fun (v50 : V) h n =>
 jp (fun (v52 : V) h n =>
 jp (fun (v54 : V) h n =>
 jp (fun (v56 : V) h n =>
 jp (fun (v58 : V) h n =>
 jp (fun (v60 : V) h n =>
 jp (fun (v62 : V) h n =>
 jp (fun (v64 : V) h n =>
 jp (fun (v66 : V) h n =>
 jp (fun (v68 : V) h n =>
 jp (fun (v70 : V) h n =>
 jp (fun (v72 : V) h n =>
 jp (fun (v74 : V) h n =>
 jp (fun (v76 : V) h n =>
 jp (fun (v78 : V) h n =>
 jp (fun (v80 : V) h n =>
 jp (fun (v82 : V) h n =>
 jp (fun (v84 : V) h n =>
 jp (fun (v86 : V) h n =>
 jp (fun (v88 : V) h n =>
 jp (fun (v90 : V) h n =>
 jp (fun (v92 : V) h n =>
 jp (fun (v94 : V) h n =>
 evPick v37 (.b true) v94 fun v96 =>
 thenR (wsB (wV v37 false) (evLoad tbx 9 v44 h fun w97 => cond (eqV 6 w97 v46) (okR) none) (cond (eqV 2 v46 (.tp [])) okR none)) (
 thenR (wsB (wV v50 true) (evLoad tbx 9 v60 h fun w98 => cond (eqV 6 w98 v62) (okR) none) (cond (eqV 2 v62 (.tp [])) okR none)) (
 thenR (wsB (wV v68 true) (evLoad tbx 3 v76 h fun w99 => cond (eqV 6 w99 v78) (okR) none) (cond (eqV 2 v78 (.tp [])) okR none)) (
 thenR (wsB (wV v68 true) (evLoad tbx 3 v88 h fun w100 => cond (eqV 6 w100 v90) (okR) none) (cond (eqV 2 v90 (.tp [])) okR none)) (
 brB v96 (
 k (.b false) h n) (
 jp (fun (s101 : VT [0, 3, 4]) h n =>
 pc s101 fun v103 s104 =>
 pc s104 fun v105 s106 =>
 pc s106 fun v107 s108 =>
 lo5 (v103, v105, v107, ()) h n) fun kk102 =>
 evIa tbx 114 v8 v14 fun v109 =>
 evFa tbx 162 1 v109 fun v110 =>
 evLoad tbx 9 v110 h fun v111 =>
 evBin2 tbx .neq 9 v111 (.s 0 0) fun v112 =>
 brB v112 (
 evLen tbx 224 v21 fun v113 =>
 evBin2 tbx .geq 3 v113 (.i .i64 20) fun v114 =>
 brB v114 (
 k (.b false) h n) (
 evBuildSl tbx 224 1 [(0, v14)] h n fun v115 h n =>
 evApp tbx 224 224 v21 v115 h n fun v116 h n =>
 kk102 (v8, v116, v14, ()) h n)) (
 kk102 (v8, v21, v14, ()) h n))))))) fun kk95 =>
 wsB (wV v37 false) ((evPick v68 v92 (.b false) fun v => kk95 v h n)) (kk95 (.tp []) h n)) fun kk93 =>
 wsB (wV v68 true) ((evBin2 tbx .eql 3 v78 v90 fun v => kk93 v h n)) (kk93 (.tp []) h n)) fun kk91 =>
 wsB (wV v68 true) ((evLoad tbx 3 v88 h fun v => kk91 v h n)) (kk91 (.tp []) h n)) fun kk89 =>
 wsB (wV v68 true) ((evFa tbx 162 0 v86 fun v => kk89 v h n)) (kk89 (.tp []) h n)) fun kk87 =>
 wsB (wV v68 true) ((evIa tbx 114 v80 v84 fun v => kk87 v h n)) (kk87 (.tp []) h n)) fun kk85 =>
 wsB (wV v68 true) ((evBin2 tbx .sub 3 v82 (.i .i64 1) fun v => kk85 v h n)) (kk85 (.tp []) h n)) fun kk83 =>
 wsB (wV v68 true) (kk83 v14 h n) (kk83 (.tp []) h n)) fun kk81 =>
 wsB (wV v68 true) (kk81 v8 h n) (kk81 (.tp []) h n)) fun kk79 =>
 wsB (wV v68 true) ((evLoad tbx 3 v76 h fun v => kk79 v h n)) (kk79 (.tp []) h n)) fun kk77 =>
 wsB (wV v68 true) ((evFa tbx 162 0 v74 fun v => kk77 v h n)) (kk77 (.tp []) h n)) fun kk75 =>
 wsB (wV v68 true) ((evIa tbx 114 v70 v72 fun v => kk75 v h n)) (kk75 (.tp []) h n)) fun kk73 =>
 wsB (wV v68 true) (kk73 v14 h n) (kk73 (.tp []) h n)) fun kk71 =>
 wsB (wV v68 true) (kk71 v8 h n) (kk71 (.tp []) h n)) fun kk69 =>
 wsB (wV v37 false) (kk69 v66 h n) (kk69 (.tp []) h n)) fun kk67 =>
 wsB (wV v37 false) ((evPick v50 v64 (.b false) fun v => kk67 v h n)) (kk67 (.tp []) h n)) fun kk65 =>
 wsB (wV v50 true) ((evBin2 tbx .eql 9 v62 (.s 0 0) fun v => kk65 v h n)) (kk65 (.tp []) h n)) fun kk63 =>
 wsB (wV v50 true) ((evLoad tbx 9 v60 h fun v => kk63 v h n)) (kk63 (.tp []) h n)) fun kk61 =>
 wsB (wV v50 true) ((evFa tbx 162 1 v58 fun v => kk61 v h n)) (kk61 (.tp []) h n)) fun kk59 =>
 wsB (wV v50 true) ((evIa tbx 114 v52 v56 fun v => kk59 v h n)) (kk59 (.tp []) h n)) fun kk57 =>
 wsB (wV v50 true) ((evBin2 tbx .sub 3 v54 (.i .i64 1) fun v => kk57 v h n)) (kk57 (.tp []) h n)) fun kk55 =>
 wsB (wV v50 true) (kk55 v14 h n) (kk55 (.tp []) h n)) fun kk53 =>
 wsB (wV v50 true) (kk53 v8 h n) (kk53 (.tp []) h n)) fun kk51 =>
 wsB (wV v37 false) (kk51 v48 h n) (kk51 (.tp []) h n)) fun kk49 =>
 wsB (wV v37 false) ((evBin2 tbx .eql 9 v46 (.s 0 0) fun v => kk49 v h n)) (kk49 (.tp []) h n)) fun kk47 =>
 wsB (wV v37 false) ((evLoad tbx 9 v44 h fun v => kk47 v h n)) (kk47 (.tp []) h n)) fun kk45 =>
 wsB (wV v37 false) ((evFa tbx 162 1 v42 fun v => kk45 v h n)) (kk45 (.tp []) h n)) fun kk43 =>
 wsB (wV v37 false) ((evIa tbx 114 v38 v40 fun v => kk43 v h n)) (kk43 (.tp []) h n)) fun kk41 =>
 wsB (wV v37 false) (kk41 v14 h n) (kk41 (.tp []) h n)) fun kk39 =>
 wsB (wV v37 false) (kk39 v8 h n) (kk39 (.tp []) h n)) fun kk36 =>
 wsB (wV v23 false) ((evUn .not v33 fun v => kk36 v h n)) (kk36 (.tp []) h n)) fun kk34 =>
 wsB (wV v23 false) ((cf 143 [v30] h n kk34)) (kk34 (.tp []) h n))) fun kk31 =>
 wsB (wV v23 false) ((evLoad tbx 162 v28 h fun v => kk31 v h n)) (kk31 (.tp []) h n)) fun kk29 =>
 wsB (wV v23 false) ((evIa tbx 114 v24 v26 fun v => kk29 v h n)) (kk29 (.tp []) h n)) fun kk27 =>
 wsB (wV v23 false) (kk27 v14 h n) (kk27 (.tp []) h n)) fun kk25 =>
 wsB (wV v23 false) (kk25 v8 h n) (kk25 (.tp []) h n))) fu) fun lo2 =>
 evLen tbx 114 a0 fun v117 =>
 evBin2 tbx .eql 3 v117 (.i .i64 0) fun v118 =>
 jp (fun (v119 : V) h n =>
 jp (fun (v121 : V) h n =>
 jp (fun (v123 : V) h n =>
 evPick v118 (.b true) v123 fun v125 =>
 jp (fun (v126 : V) h n =>
 jp (fun (v128 : V) h n =>
 jp (fun (v130 : V) h n =>
 jp (fun (v132 : V) h n =>
 jp (fun (v134 : V) h n =>
 evPick v125 (.b true) v134 fun v136 =>
 jp (fun (v137 : V) h n =>
 jp (fun (v139 : V) h n =>
 jp (fun (v141 : V) h n =>
 jp (fun (v143 : V) h n =>
 jp (fun (v145 : V) h n =>
 evPick v136 (.b true) v145 fun v147 =>
 jp (fun (v148 : V) h n =>
 jp (fun (v150 : V) h n =>
 jp (fun (v152 : V) h n =>
 jp (fun (v154 : V) h n =>
 jp (fun (v156 : V) h n =>
 evPick v147 (.b true) v156 fun v158 =>
 brB v158 (
 k (.b false) h n) (
 evBuildSl tbx 224 1 [(0, (.i .i64 0))] h n fun v159 h n =>
 evBin2 tbx .add 3 (.i .i64 0) (.i .i64 1) fun v160 =>
 evLen tbx 114 a0 fun v161 =>
 evBin2 tbx .eql 3 v160 v161 fun v162 =>
 brB v162 (
 k (.b true) h n) (
 evIa tbx 114 a0 v160 fun v163 =>
 evFa tbx 162 0 v163 fun v164 =>
 evLoad tbx 3 v164 h fun v165 =>
 cf 144 [v159, v165] h n fun v166 h n =>
 evExt 0 v166 fun v167 =>
 evExt 1 v166 fun v168 =>
 evUn .not v168 fun v169 =>
 jp (fun (v170 : V) h n =>
 jp (fun (v172 : V) h n =>
 jp (fun (v174 : V) h n =>
 jp (fun (v176 : V) h n =>
 thenR (wsB (wV v169 false) (evLoad tbx 162 v174 h fun w178 => cond (eqV 6 w178 v176) (okR) none) (cond (eqV 2 v176 (.tp [])) okR none)) (
 jp (fun (v179 : V) h n =>
 jp (fun (v181 : V) h n =>
 evPick v169 (.b true) v181 fun v183 =>
 jp (fun (v184 : V) h n =>
 jp (fun (v186 : V) h n =>
 jp (fun (v188 : V) h n =>
 jp (fun (v190 : V) h n =>
 jp (fun (v192 : V) h n =>
 jp (fun (v194 : V) h n =>
 jp (fun (v196 : V) h n =>
 jp (fun (v198 : V) h n =>
 jp (fun (v200 : V) h n =>
 jp (fun (v202 : V) h n =>
 jp (fun (v204 : V) h n =>
 jp (fun (v206 : V) h n =>
 jp (fun (v208 : V) h n =>
 jp (fun (v210 : V) h n =>
 jp (fun (v212 : V) h n =>
 jp (fun (v214 : V) h n =>
 jp (fun (v216 : V) h n =>
 jp (fun (v218 : V) h n =>
 jp (fun (v220 : V) h n =>
 jp (fun (v222 : V) h n =>
 jp (fun (v224 : V) h n =>
 jp (fun (v226 : V) h n =>
 jp (fun (v228 : V) h n =>
 jp (fun (v230 : V) h n =>
 jp (fun (v232 : V) h n =>
 jp (fun (v234 : V) h n =>
 jp (fun (v236 : V) h n =>
 jp (fun (v238 : V) h n =>
 jp (fun (v240 : V) h n =>
 evPick v183 (.b true) v240 fun v242 =>
 thenR (wsB (wV v183 false) (evLoad tbx 9 v190 h fun w243 => cond (eqV 6 w243 v192) (okR) none) (cond (eqV 2 v192 (.tp [])) okR none)) (
 thenR (wsB (wV v196 true) (evLoad tbx 9 v206 h fun w244 => cond (eqV 6 w244 v208) (okR) none) (cond (eqV 2 v208 (.tp [])) okR none)) (
 thenR (wsB (wV v214 true) (evLoad tbx 3 v222 h fun w245 => cond (eqV 6 w245 v224) (okR) none) (cond (eqV 2 v224 (.tp [])) okR none)) (
 thenR (wsB (wV v214 true) (evLoad tbx 3 v234 h fun w246 => cond (eqV 6 w246 v236) (okR) none) (cond (eqV 2 v236 (.tp [])) okR none)) (
 brB v242 (
 k (.b false) h n) (
 jp (fun (s247 : VT [0, 3, 4]) h n =>
 pc s247 fun v249 s250 =>
 pc s250 fun v251 s252 =>
 pc s252 fun v253 s254 =>
 lo2 (v249, v251, v253, ()) h n) fun kk248 =>
 evIa tbx 114 a0 v160 fun v255 =>
 evFa tbx 162 1 v255 fun v256 =>
 evLoad tbx 9 v256 h fun v257 =>
 evBin2 tbx .neq 9 v257 (.s 0 0) fun v258 =>
 brB v258 (
 evLen tbx 224 v167 fun v259 =>
 evBin2 tbx .geq 3 v259 (.i .i64 20) fun v260 =>
 brB v260 (
 k (.b false) h n) (
 evBuildSl tbx 224 1 [(0, v160)] h n fun v261 h n =>
 evApp tbx 224 224 v167 v261 h n fun v262 h n =>
 kk248 (a0, v262, v160, ()) h n)) (
 kk248 (a0, v167, v160, ()) h n))))))) fun kk241 =>
 wsB (wV v183 false) ((evPick v214 v238 (.b false) fun v => kk241 v h n)) (kk241 (.tp []) h n)) fun kk239 =>
 wsB (wV v214 true) ((evBin2 tbx .eql 3 v224 v236 fun v => kk239 v h n)) (kk239 (.tp []) h n)) fun kk237 =>
 wsB (wV v214 true) ((evLoad tbx 3 v234 h fun v => kk237 v h n)) (kk237 (.tp []) h n)) fun kk235 =>
 wsB (wV v214 true) ((evFa tbx 162 0 v232 fun v => kk235 v h n)) (kk235 (.tp []) h n)) fun kk233 =>
 wsB (wV v214 true) ((evIa tbx 114 v226 v230 fun v => kk233 v h n)) (kk233 (.tp []) h n)) fun kk231 =>
 wsB (wV v214 true) ((evBin2 tbx .sub 3 v228 (.i .i64 1) fun v => kk231 v h n)) (kk231 (.tp []) h n)) fun kk229 =>
 wsB (wV v214 true) (kk229 v160 h n) (kk229 (.tp []) h n)) fun kk227 =>
 wsB (wV v214 true) (kk227 a0 h n) (kk227 (.tp []) h n)) fun kk225 =>
 wsB (wV v214 true) ((evLoad tbx 3 v222 h fun v => kk225 v h n)) (kk225 (.tp []) h n)) fun kk223 =>
 wsB (wV v214 true) ((evFa tbx 162 0 v220 fun v => kk223 v h n)) (kk223 (.tp []) h n)) fun kk221 =>
 wsB (wV v214 true) ((evIa tbx 114 v216 v218 fun v => kk221 v h n)) (kk221 (.tp []) h n)) fun kk219 =>
 wsB (wV v214 true) (kk219 v160 h n) (kk219 (.tp []) h n)) fun kk217 =>
 wsB (wV v214 true) (kk217 a0 h n) (kk217 (.tp []) h n)) fun kk215 =>
 wsB (wV v183 false) (kk215 v212 h n) (kk215 (.tp []) h n)) fun kk213 =>
 wsB (wV v183 false) ((evPick v196 v210 (.b false) fun v => kk213 v h n)) (kk213 (.tp []) h n)) fun kk211 =>
 wsB (wV v196 true) ((evBin2 tbx .eql 9 v208 (.s 0 0) fun v => kk211 v h n)) (kk211 (.tp []) h n)) fun kk209 =>
 wsB (wV v196 true) ((evLoad tbx 9 v206 h fun v => kk209 v h n)) (kk209 (.tp []) h n)) fun kk207 =>
 wsB (wV v196 true) ((evFa tbx 162 1 v204 fun v => kk207 v h n)) (kk207 (.tp []) h n)) fun kk205 =>
 wsB (wV v196 true) ((evIa tbx 114 v198 v202 fun v => kk205 v h n)) (kk205 (.tp []) h n)) fun kk203 =>
 wsB (wV v196 true) ((evBin2 tbx .sub 3 v200 (.i .i64 1) fun v => kk203 v h n)) (kk203 (.tp []) h n)) fun kk201 =>
 wsB (wV v196 true) (kk201 v160 h n) (kk201 (.tp []) h n)) fun kk199 =>
 wsB (wV v196 true) (kk199 a0 h n) (kk199 (.tp []) h n)) fun kk197 =>
 wsB (wV v183 false) (kk197 v194 h n) (kk197 (.tp []) h n)) fun kk195 =>
 wsB (wV v183 false) ((evBin2 tbx .eql 9 v192 (.s 0 0) fun v => kk195 v h n)) (kk195 (.tp []) h n)) fun kk193 =>
 wsB (wV v183 false) ((evLoad tbx 9 v190 h fun v => kk193 v h n)) (kk193 (.tp []) h n)) fun kk191 =>
 wsB (wV v183 false) ((evFa tbx 162 1 v188 fun v => kk191 v h n)) (kk191 (.tp []) h n)) fun kk189 =>
 wsB (wV v183 false) ((evIa tbx 114 v184 v186 fun v => kk189 v h n)) (kk189 (.tp []) h n)) fun kk187 =>
 wsB (wV v183 false) (kk187 v160 h n) (kk187 (.tp []) h n)) fun kk185 =>
 wsB (wV v183 false) (kk185 a0 h n) (kk185 (.tp []) h n)) fun kk182 =>
 wsB (wV v169 false) ((evUn .not v179 fun v => kk182 v h n)) (kk182 (.tp []) h n)) fun kk180 =>
 wsB (wV v169 false) ((cf 143 [v176] h n kk180)) (kk180 (.tp []) h n))) fun kk177 =>
 wsB (wV v169 false) ((evLoad tbx 162 v174 h fun v => kk177 v h n)) (kk177 (.tp []) h n)) fun kk175 =>
 wsB (wV v169 false) ((evIa tbx 114 v170 v172 fun v => kk175 v h n)) (kk175 (.tp []) h n)) fun kk173 =>
 wsB (wV v169 false) (kk173 v160 h n) (kk173 (.tp []) h n)) fun kk171 =>
 wsB (wV v169 false) (kk171 a0 h n) (kk171 (.tp []) h n)))) fun kk157 =>
 gdB v147 false ((evUn .not v154 fun v => kk157 v h n)) (kk157 (.tp []) h n)) fun kk155 =>
 gdB v147 false ((cf 143 [v152] h n kk155)) (kk155 (.tp []) h n)) fun kk153 =>
 gdB v147 false ((evLoad tbx 162 v150 h fun v => kk153 v h n)) (kk153 (.tp []) h n)) fun kk151 =>
 gdB v147 false ((evIa tbx 114 v148 (.i .i64 0) fun v => kk151 v h n)) (kk151 (.tp []) h n)) fun kk149 =>
 gdB v147 false (kk149 a0 h n) (kk149 (.tp []) h n)) fun kk146 =>
 gdB v136 false ((evBin2 tbx .neq 3 v143 (.i .i64 (-1)) fun v => kk146 v h n)) (kk146 (.tp []) h n)) fun kk144 =>
 gdB v136 false ((evLoad tbx 3 v141 h fun v => kk144 v h n)) (kk144 (.tp []) h n)) fun kk142 =>
 gdB v136 false ((evFa tbx 162 0 v139 fun v => kk142 v h n)) (kk142 (.tp []) h n)) fun kk140 =>
 gdB v136 false ((evIa tbx 114 v137 (.i .i64 0) fun v => kk140 v h n)) (kk140 (.tp []) h n)) fun kk138 =>
 gdB v136 false (kk138 a0 h n) (kk138 (.tp []) h n)) fun kk135 =>
 gdB v125 false ((evBin2 tbx .eql 9 v132 (.s 0 0) fun v => kk135 v h n)) (kk135 (.tp []) h n)) fun kk133 =>
 gdB v125 false ((evLoad tbx 9 v130 h fun v => kk133 v h n)) (kk133 (.tp []) h n)) fun kk131 =>
 gdB v125 false ((evFa tbx 162 1 v128 fun v => kk131 v h n)) (kk131 (.tp []) h n)) fun kk129 =>
 gdB v125 false ((evIa tbx 114 v126 (.i .i64 0) fun v => kk129 v h n)) (kk129 (.tp []) h n)) fun kk127 =>
 gdB v125 false (kk127 a0 h n) (kk127 (.tp []) h n)) fun kk124 =>
 gdB v118 false ((evBin2 tbx .gtr 3 v121 (.i .i64 2000) fun v => kk124 v h n)) (kk124 (.tp []) h n)) fun kk122 =>
 gdB v118 false ((evLen tbx 114 v119 fun v => kk122 v h n)) (kk122 (.tp []) h n)) fun kk120 =>
 gdB v118 false (kk120 a0 h n) (kk120 (.tp []) h n)
noncomputable def e97 : FE := ⟨Tryz.f97, bd Tryz.f97, [0], [2], (.q .z (.g 0 [0, 3, 4] [2] (.q (.q .z (.c (.q .z .z) .z)) (.q .z (.q .z (.q .z (.q (.q .z (.c (.q .z .z) .z)) (.q .z (.q (.q .z (.c (.q .z .z) .z)) (.q .z (.s [0, 3, 4] (.q .z (.c (.q (.q .z (.c (.q .z .z) .z)) .z) .z)) .z))))))))) (.q .z (.q .z (.q (.q .z (.c (.q .z .z) .z)) (.q .z (.q (.q .z (.c (.q .z .z) .z)) (.q .z (.s [0, 3, 4] (.q .z (.c (.q (.q .z (.c (.q .z .z) .z)) .z) .z)) .z)))))))))⟩
theorem q97 (fu : Nat) (cf : CF) (a0 : V) (h : H) (n : Id) (k : KV) : evF fu cf e97 [a0] h n k = s97 fu cf a0 h n k := by kernel_rfl
theorem p97 : PfOk Tryz.prog tbx mtab 97 (w1 (s97 fuX)) := pfo e97 Tryz.func97 (by kernel_rfl) (w1_ok (q97 fuX))
noncomputable def s98 (fu : Nat) (cf : CF) (a0 a1 a2 : V) (h : H) (n : Id) (k : KV) : R :=
 evBox a0 h n fun v1 h n =>
 evBox a2 h n fun v2 h n =>
 evMkMap h n fun v3 h n =>
 evAlloc tbx 227 h n fun v4 h n =>
 evStore tbx 227 v4 v3 h n fun _ h n =>
 evLoad tbx 163 v1 h fun v5 =>
 let v6 : V := (.fn 146 [v1, v2, v4])
 cf 145 [v5, a1, v6] h n fun v7 h n =>
 k v7 h n
noncomputable def e98 : FE := ⟨Tryz.f98, bd Tryz.f98, [0, 1, 2], [6], (.q .z (.q .z (.q .z .z)))⟩
theorem q98 (fu : Nat) (cf : CF) (a0 a1 a2 : V) (h : H) (n : Id) (k : KV) : evF fu cf e98 [a0, a1, a2] h n k = s98 fu cf a0 a1 a2 h n k := by kernel_rfl
theorem p98 : PfOk Tryz.prog tbx mtab 98 (w3 (s98 fuX)) := pfo e98 Tryz.func98 (by kernel_rfl) (w3_ok (q98 fuX))
noncomputable def s99 (fu : Nat) (cf : CF) (a0 a1 : V) (h : H) (n : Id) (k : KV) : R :=
 evBox a0 h n fun v1 h n =>
 evBox a1 h n fun v2 h n =>
 let v3 : V := (.fn 147 [v1, v2])
 k v3 h n
noncomputable def e99 : FE := ⟨Tryz.f99, bd Tryz.f99, [0, 1], [4], (.q .z (.q .z .z))⟩
theorem q99 (fu : Nat) (cf : CF) (a0 a1 : V) (h : H) (n : Id) (k : KV) : evF fu cf e99 [a0, a1] h n k = s99 fu cf a0 a1 h n k := by kernel_rfl
theorem p99 : PfOk Tryz.prog tbx mtab 99 (w2 (s99 fuX)) := pfo e99 Tryz.func99 (by kernel_rfl) (w2_ok (q99 fuX))
noncomputable def s100 (fu : Nat) (cf : CF) (a0 a1 : V) (h : H) (n : Id) (k : KV) : R :=
 evBox a0 h n fun v1 h n =>
 evBox a1 h n fun v2 h n =>
 let v3 : V := (.fn 149 [v1, v2])
 k v3 h n
noncomputable def e100 : FE := ⟨Tryz.f100, bd Tryz.f100, [0, 1], [4], (.q .z (.q .z .z))⟩
theorem q100 (fu : Nat) (cf : CF) (a0 a1 : V) (h : H) (n : Id) (k : KV) : evF fu cf e100 [a0, a1] h n k = s100 fu cf a0 a1 h n k := by kernel_rfl
theorem p100 : PfOk Tryz.prog tbx mtab 100 (w2 (s100 fuX)) := pfo e100 Tryz.func100 (by kernel_rfl) (w2_ok (q100 fuX))
noncomputable def s101 (fu : Nat) (cf : CF) (a0 a1 : V) (h : H) (n : Id) (k : KV) : R :=
 evBox a0 h n fun v1 h n =>
 evBox a1 h n fun v2 h n =>
 let v3 : V := (.fn 150 [v1, v2])
 k v3 h n
noncomputable def e101 : FE := ⟨Tryz.f101, bd Tryz.f101, [0, 1], [4], (.q .z (.q .z .z))⟩
theorem q101 (fu : Nat) (cf : CF) (a0 a1 : V) (h : H) (n : Id) (k : KV) : evF fu cf e101 [a0, a1] h n k = s101 fu cf a0 a1 h n k := by kernel_rfl
theorem p101 : PfOk Tryz.prog tbx mtab 101 (w2 (s101 fuX)) := pfo e101 Tryz.func101 (by kernel_rfl) (w2_ok (q101 fuX))
noncomputable def s102 (fu : Nat) (cf : CF) (a0 a1 : V) (h : H) (n : Id) (k : KV) : R :=
 evBox a0 h n fun v1 h n =>
 evBox a1 h n fun v2 h n =>
 let v3 : V := (.fn 152 [v1, v2])
 k v3 h n
noncomputable def e102 : FE := ⟨Tryz.f102, bd Tryz.f102, [0, 1], [4], (.q .z (.q .z .z))⟩
theorem q102 (fu : Nat) (cf : CF) (a0 a1 : V) (h : H) (n : Id) (k : KV) : evF fu cf e102 [a0, a1] h n k = s102 fu cf a0 a1 h n k := by kernel_rfl
theorem p102 : PfOk Tryz.prog tbx mtab 102 (w2 (s102 fuX)) := pfo e102 Tryz.func102 (by kernel_rfl) (w2_ok (q102 fuX))
noncomputable def s103 (fu : Nat) (cf : CF) (a0 a1 : V) (h : H) (n : Id) (k : KV) : R :=
 evBox a0 h n fun v1 h n =>
 evBox a1 h n fun v2 h n =>
 let v3 : V := (.fn 153 [v1, v2])
 k v3 h n
noncomputable def e103 : FE := ⟨Tryz.f103, bd Tryz.f103, [0, 1], [4], (.q .z (.q .z .z))⟩
theorem q103 (fu : Nat) (cf : CF) (a0 a1 : V) (h : H) (n : Id) (k : KV) : evF fu cf e103 [a0, a1] h n k = s103 fu cf a0 a1 h n k := by kernel_rfl
theorem p103 : PfOk Tryz.prog tbx mtab 103 (w2 (s103 fuX)) := pfo e103 Tryz.func103 (by kernel_rfl) (w2_ok (q103 fuX))
noncomputable def s104 (fu : Nat) (cf : CF) (a0 a1 : V) (h : H) (n : Id) (k : KV) : R :=
 evBin2 tbx .neq 33 a0 (.i .i64 0) fun v1 =>
 brB v1 (
 k a0 h n) (
 cf 158 [a1] h n fun v2 h n =>
 k v2 h n)
noncomputable def e104 : FE := ⟨Tryz.f104, bd Tryz.f104, [0, 1], [4], (.q .z (.q (.q .z (.c (.q .z .z) .z)) (.q .z .z)))⟩
theorem q104 (fu : Nat) (cf : CF) (a0 a1 : V) (h : H) (n : Id) (k : KV) : evF fu cf e104 [a0, a1] h n k = s104 fu cf a0 a1 h n k := by kernel_rfl
theorem p104 : PfOk Tryz.prog tbx mtab 104 (w2 (s104 fuX)) := pfo e104 Tryz.func104 (by kernel_rfl) (w2_ok (q104 fuX))
noncomputable def s105 (fu : Nat) (cf : CF) (a0 : V) (h : H) (n : Id) (k : KV) : R :=
 jp (fun (s1 : VT [0]) h n =>
 pc s1 fun v3 s4 =>
 evLen tbx 9 v3 fun v5 =>
 evBin2 tbx .geq 3 v5 (.i .i64 1) fun v6 =>
 jp (fun (v7 : V) h n =>
 jp (fun (v9 : V) h n =>
 jp (fun (v11 : V) h n =>
 evPick v6 v11 (.b false) fun v13 =>
 k v13 h n) fun kk12 =>
 gdB v6 true ((evBin2 tbx .leq 3 v9 (.i .i64 500) fun v => kk12 v h n)) (kk12 (.tp []) h n)) fun kk10 =>
 gdB v6 true ((evLen tbx 9 v7 fun v => kk10 v h n)) (kk10 (.tp []) h n)) fun kk8 =>
 gdB v6 true (kk8 v3 h n) (kk8 (.tp []) h n)) fun kk2 =>
 lpC [0, 3] (fun lo15 s14 h n =>
 pc s14 fun v16 s17 =>
 pc s17 fun v18 s19 =>
 evLen tbx 9 v16 fun v20 =>
 evBin2 tbx .lss 3 v18 v20 fun v21 =>
 brB v21 (
 jp (fun (s22 : VT [0, 3]) h n =>
 pc s22 fun v24 s25 =>
 pc s25 fun v26 s27 =>
 evBin2 tbx .add 3 v26 (.i .i64 1) fun v28 =>
 lo15 (v24, v28, ()) h n) fun kk23 =>
 evIx tbx 9 v16 v18 fun v29 =>
 evBin2 tbx .geq 5 v29 (.i .u8 97) fun v30 =>
 jp (fun (v31 : V) h n =>
 jp (fun (v33 : V) h n =>
 evPick v30 v33 (.b false) fun v35 =>
 jp (fun (v36 : V) h n =>
 jp (fun (v38 : V) h n =>
 jp (fun (v40 : V) h n =>
 jp (fun (v42 : V) h n =>
 jp (fun (v44 : V) h n =>
 jp (fun (v46 : V) h n =>
 evPick v35 (.b true) v46 fun v48 =>
 jp (fun (v49 : V) h n =>
 jp (fun (v51 : V) h n =>
 evPick v48 (.b true) v51 fun v53 =>
 jp (fun (v54 : V) h n =>
 jp (fun (v56 : V) h n =>
 evPick v53 (.b true) v56 fun v58 =>
 jp (fun (v59 : V) h n =>
 jp (fun (v61 : V) h n =>
 evPick v58 (.b true) v61 fun v63 =>
 jp (fun (v64 : V) h n =>
 jp (fun (v66 : V) h n =>
 evPick v63 (.b true) v66 fun v68 =>
 evUn .not v68 fun v69 =>
 brB v69 (
 k (.b false) h n) (
 kk23 (v16, v18, ()) h n)) fun kk67 =>
 gdB v63 false ((evBin2 tbx .eql 5 v64 (.i .u8 46) fun v => kk67 v h n)) (kk67 (.tp []) h n)) fun kk65 =>
 gdB v63 false (kk65 v29 h n) (kk65 (.tp []) h n)) fun kk62 =>
 gdB v58 false ((evBin2 tbx .eql 5 v59 (.i .u8 45) fun v => kk62 v h n)) (kk62 (.tp []) h n)) fun kk60 =>
 gdB v58 false (kk60 v29 h n) (kk60 (.tp []) h n)) fun kk57 =>
 gdB v53 false ((evBin2 tbx .eql 5 v54 (.i .u8 95) fun v => kk57 v h n)) (kk57 (.tp []) h n)) fun kk55 =>
 gdB v53 false (kk55 v29 h n) (kk55 (.tp []) h n)) fun kk52 =>
 gdB v48 false ((cf 123 [v49] h n kk52)) (kk52 (.tp []) h n)) fun kk50 =>
 gdB v48 false (kk50 v29 h n) (kk50 (.tp []) h n)) fun kk47 =>
 gdB v35 false ((evPick v40 v44 (.b false) fun v => kk47 v h n)) (kk47 (.tp []) h n)) fun kk45 =>
 gdB v40 true ((evBin2 tbx .leq 5 v42 (.i .u8 90) fun v => kk45 v h n)) (kk45 (.tp []) h n)) fun kk43 =>
 gdB v40 true (kk43 v29 h n) (kk43 (.tp []) h n)) fun kk41 =>
 gdB v35 false (kk41 v38 h n) (kk41 (.tp []) h n)) fun kk39 =>
 gdB v35 false ((evBin2 tbx .geq 5 v36 (.i .u8 65) fun v => kk39 v h n)) (kk39 (.tp []) h n)) fun kk37 =>
 gdB v35 false (kk37 v29 h n) (kk37 (.tp []) h n)) fun kk34 =>
 gdB v30 true ((evBin2 tbx .leq 5 v31 (.i .u8 122) fun v => kk34 v h n)) (kk34 (.tp []) h n)) fun kk32 =>
 gdB v30 true (kk32 v29 h n) (kk32 (.tp []) h n)) (
 kk2 (v16, ()) h n)) fu (a0, (.i .i64 0), ()) h n
noncomputable def e105 : FE := ⟨Tryz.f105, bd Tryz.f105, [0], [2], (.q .z (.q (.q .z (.b [0] (.l [0, 3] (.q (.q .z (.c .z .z)) (.q (.b [0, 3] (.q .z (.q .z (.c (.q .z .z) .z)))) .z))))) (.q .z .z)))⟩
theorem q105 (fu : Nat) (cf : CF) (a0 : V) (h : H) (n : Id) (k : KV) : evF fu cf e105 [a0] h n k = s105 fu cf a0 h n k := by kernel_rfl
theorem p105 : PfOk Tryz.prog tbx mtab 105 (w1 (s105 fuX)) := pfo e105 Tryz.func105 (by kernel_rfl) (w1_ok (q105 fuX))
noncomputable def s106 (fu : Nat) (cf : CF) (a0 : V) (h : H) (n : Id) (k : KV) : R :=
 cf 159 [a0] h n fun v1 h n =>
 jp (fun (v2 : V) h n =>
 jp (fun (v4 : V) h n =>
 jp (fun (v6 : V) h n =>
 evPick v1 v6 (.b false) fun v8 =>
 k v8 h n) fun kk7 =>
 gdB v1 true ((evUn .not v4 fun v => kk7 v h n)) (kk7 (.tp []) h n)) fun kk5 =>
 gdB v1 true ((cf 160 [v2] h n kk5)) (kk5 (.tp []) h n)) fun kk3 =>
 gdB v1 true (kk3 a0 h n) (kk3 (.tp []) h n)
noncomputable def e106 : FE := ⟨Tryz.f106, bd Tryz.f106, [0], [2], (.q .z (.q .z .z))⟩
theorem q106 (fu : Nat) (cf : CF) (a0 : V) (h : H) (n : Id) (k : KV) : evF fu cf e106 [a0] h n k = s106 fu cf a0 h n k := by kernel_rfl
theorem p106 : PfOk Tryz.prog tbx mtab 106 (w1 (s106 fuX)) := pfo e106 Tryz.func106 (by kernel_rfl) (w1_ok (q106 fuX))
noncomputable def s107 (fu : Nat) (cf : CF) (a0 a1 : V) (h : H) (n : Id) (k : KV) : R :=
 evBox a1 h n fun v1 h n =>
 evAlloc tbx 32 h n fun v2 h n =>
 evNc' a0 fun v3 =>
 evFa tbx 122 0 v3 fun v4 =>
 evLoad tbx 27 v4 h fun v5 =>
 evLoad tbx 24 v1 h fun v6 =>
 evLoad tbx 27 v4 h fun w67 => cond (eqV 6 w67 v5) (
 evLoad tbx 24 v1 h fun w66 => cond (eqV 6 w66 v6) (
 cf 20 [v5, v6] h n fun v7 h n =>
 evExt 0 v7 fun v8 =>
 evExt 1 v7 fun v9 =>
 evBin2 tbx .neq 33 v9 (.i .i64 0) fun v10 =>
 brB v10 (
 evBuild tbx 32 [] fun v11 =>
 evStore tbx 32 v2 v11 h n fun _ h n =>
 evLoad tbx 32 v2 h fun v12 =>
 k (.tp [v12, v9]) h n) (
 evLoad tbx 24 v1 h fun v13 =>
 cf 161 [v13, v8] h n fun v14 h n =>
 evExt 0 v14 fun v15 =>
 evExt 1 v14 fun v16 =>
 evAlloc tbx 32 h n fun v17 h n =>
 evStore tbx 32 v17 v15 h n fun _ h n =>
 evBin2 tbx .neq 33 v16 (.i .i64 0) fun v18 =>
 brB v18 (
 evBuild tbx 32 [] fun v19 =>
 evStore tbx 32 v2 v19 h n fun _ h n =>
 evLoad tbx 32 v2 h fun v20 =>
 k (.tp [v20, v16]) h n) (
 evLoad tbx 24 v1 h fun v21 =>
 evFa tbx 32 5 v17 fun v22 =>
 evLoad tbx 29 v22 h fun v23 =>
 cf 163 [v21, v23] h n fun v24 h n =>
 cf 162 [v24] h n fun v25 h n =>
 evFa tbx 32 5 v17 fun v26 =>
 evLoad tbx 29 v26 h fun v27 =>
 cf 164 [v25, v27] h n fun v28 h n =>
 evExt 0 v28 fun v29 =>
 evExt 1 v28 fun v30 =>
 evFa tbx 32 5 v17 fun v31 =>
 evStore tbx 29 v31 v29 h n fun _ h n =>
 evBin2 tbx .neq 33 v30 (.i .i64 0) fun v32 =>
 brB v32 (
 evBuild tbx 32 [] fun v33 =>
 evStore tbx 32 v2 v33 h n fun _ h n =>
 evLoad tbx 32 v2 h fun v34 =>
 k (.tp [v34, v30]) h n) (
 evFa tbx 32 4 v17 fun v35 =>
 evBuildSl tbx 278 1 [(0, v35)] h n fun v36 h n =>
 cf 165 [v25, v36] h n fun v37 h n =>
 evBin2 tbx .neq 33 v37 (.i .i64 0) fun v38 =>
 brB v38 (
 evBuild tbx 32 [] fun v39 =>
 evStore tbx 32 v2 v39 h n fun _ h n =>
 evLoad tbx 32 v2 h fun v40 =>
 k (.tp [v40, v37]) h n) (
 evFa tbx 32 4 v17 fun v41 =>
 evLoad tbx 9 v41 h fun v42 =>
 evBuildSl tbx 71 2 [(0, v42), (1, (.s 3 6971762))] h n fun v43 h n =>
 cf 42 [v43] h n fun v44 h n =>
 evFa tbx 32 4 v17 fun v45 =>
 evStore tbx 9 v45 v44 h n fun _ h n =>
 evFa tbx 32 6 v17 fun v46 =>
 evLoad tbx 30 v46 h fun v47 =>
 cf 166 [v25, v47, (.b true)] h n fun v48 h n =>
 evExt 0 v48 fun v49 =>
 evExt 1 v48 fun v50 =>
 evFa tbx 32 6 v17 fun v51 =>
 evStore tbx 30 v51 v49 h n fun _ h n =>
 evBin2 tbx .neq 33 v50 (.i .i64 0) fun v52 =>
 brB v52 (
 evBuild tbx 32 [] fun v53 =>
 evStore tbx 32 v2 v53 h n fun _ h n =>
 evLoad tbx 32 v2 h fun v54 =>
 k (.tp [v54, v50]) h n) (
 evFa tbx 32 7 v17 fun v55 =>
 evLoad tbx 30 v55 h fun v56 =>
 cf 166 [v25, v56, (.b false)] h n fun v57 h n =>
 evExt 0 v57 fun v58 =>
 evExt 1 v57 fun v59 =>
 evFa tbx 32 7 v17 fun v60 =>
 evStore tbx 30 v60 v58 h n fun _ h n =>
 evBin2 tbx .neq 33 v59 (.i .i64 0) fun v61 =>
 brB v61 (
 evBuild tbx 32 [] fun v62 =>
 evStore tbx 32 v2 v62 h n fun _ h n =>
 evLoad tbx 32 v2 h fun v63 =>
 k (.tp [v63, v59]) h n) (
 evLoad tbx 32 v17 h fun v64 =>
 evStore tbx 32 v2 v64 h n fun _ h n =>
 evLoad tbx 32 v2 h fun v65 =>
 k (.tp [v65, (.i .i64 0)]) h n))))))) none) none
noncomputable def e107 : FE := ⟨Tryz.f107, bd Tryz.f107, [0, 1], [4, 5], (.q .z (.q .z (.q (.q .z (.c (.q .z .z) .z)) (.q .z (.q (.q .z (.c (.q .z .z) .z)) (.q .z (.q (.q .z (.q .z (.c (.q .z .z) .z))) (.q (.q .z (.q .z (.c (.q .z .z) .z))) (.q .z (.q (.q .z (.q .z (.c (.q .z .z) .z))) (.q (.q .z (.q .z (.c (.q .z .z) .z))) (.q .z .z))))))))))))⟩
theorem q107 (fu : Nat) (cf : CF) (a0 a1 : V) (h : H) (n : Id) (k : KV) : evF fu cf e107 [a0, a1] h n k = s107 fu cf a0 a1 h n k := by kernel_rfl
theorem p107 : PfOk Tryz.prog tbx mtab 107 (w2 (s107 fuX)) := pfo e107 Tryz.func107 (by kernel_rfl) (w2_ok (q107 fuX))
noncomputable def s108 (fu : Nat) (cf : CF) (a0 a1 a2 : V) (h : H) (n : Id) (k : KV) : R :=
 cf 112 [a1] h n fun v1 h n =>
 cf 167 [v1, (.fn 168 [])] h n fun v2 h n =>
 evLen tbx 30 a1 fun v3 =>
 jp (fun (s4 : VT [9, 10]) h n =>
 pc s4 fun v6 s7 =>
 pc s7 fun v8 s9 =>
 cf 110 [v6] h n fun v10 h n =>
 evLen tbx 30 v10 fun v11 =>
 evBin2 tbx .gtr 3 v11 (.i .i64 200) fun v12 =>
 brB v12 (
 k (.tp [.ns, (.i .i64 0), (.i .i64 3)]) h n) (
 k (.tp [v10, v8, (.i .i64 0)]) h n)) fun kk5 =>
 lpC [0, 2, 9, 10, 18, 19, 20] (fun lo14 s13 h n =>
 pc s13 fun v15 s16 =>
 pc s16 fun v17 s18 =>
 pc s18 fun v19 s20 =>
 pc s20 fun v21 s22 =>
 pc s22 fun v23 s24 =>
 pc s24 fun v25 s26 =>
 pc s26 fun v27 s28 =>
 evBin2 tbx .lss 3 v27 v25 fun v29 =>
 brB v29 (
 jp (fun (s30 : VT [0, 2, 9, 10, 18, 19, 20]) h n =>
 pc s30 fun v32 s33 =>
 pc s33 fun v34 s35 =>
 pc s35 fun v36 s37 =>
 pc s37 fun v38 s39 =>
 pc s39 fun v40 s41 =>
 pc s41 fun v42 s43 =>
 pc s43 fun v44 s45 =>
 evBin2 tbx .add 3 v44 (.i .i64 1) fun v46 =>
 lo14 (v32, v34, v36, v38, v40, v42, v46, ()) h n) fun kk31 =>
 evIa tbx 30 v23 v27 fun v47 =>
 evLoad tbx 51 v47 h fun v48 =>
 evAlloc tbx 51 h n fun v49 h n =>
 evStore tbx 51 v49 v48 h n fun _ h n =>
 evLoad tbx 51 v49 h fun v50 =>
 cf 168 [v50] h n fun v51 h n =>
 evUn .not v51 fun v52 =>
 brB v52 (
 kk31 (v15, v17, v19, v21, v23, v25, v27, ()) h n) (
 evFa tbx 51 0 v49 fun v53 =>
 evLoad tbx 9 v53 h fun v54 =>
 evFa tbx 51 1 v49 fun v55 =>
 evLoad tbx 9 v55 h fun v56 =>
 evFa tbx 51 2 v49 fun v57 =>
 evLoad tbx 9 v57 h fun v58 =>
 evBuild tbx 24 [(0, v54), (1, v56), (2, v58)] fun v59 =>
 cf 65 [v15, v59, v17] h n fun v60 h n =>
 evExt 0 v60 fun v61 =>
 evExt 1 v60 fun v62 =>
 evAlloc tbx 124 h n fun v63 h n =>
 evStore tbx 124 v63 v61 h n fun _ h n =>
 evBin2 tbx .neq 33 v62 (.i .i64 0) fun v64 =>
 brB v64 (
 k (.tp [.ns, (.i .i64 0), v62]) h n) (
 evFa tbx 124 0 v63 fun v65 =>
 evFa tbx 32 6 v65 fun v66 =>
 evLoad tbx 30 v66 h fun v67 =>
 evFa tbx 124 1 v63 fun v68 =>
 evLoad tbx 3 v68 h fun v69 =>
 evBin2 tbx .add 3 v69 (.i .i64 1) fun v70 =>
 evMax v21 v70 fun v71 =>
 evLoad tbx 30 v66 h fun w75 => cond (eqV 6 w75 v67) (
 evLoad tbx 3 v68 h fun w74 => cond (eqV 6 w74 v69) (
 evApp tbx 30 30 v19 v67 h n fun v72 h n =>
 evLoad tbx 3 v68 h fun w73 => cond (eqV 6 w73 v69) (
 kk31 (v15, v17, v72, v71, v23, v25, v27, ()) h n) none) none) none))) (
 kk5 (v19, v21, ()) h n)) fu (a0, a2, v2, (.i .i64 0), a1, v3, (.i .i64 0), ()) h n
noncomputable def e108 : FE := ⟨Tryz.f108, bd Tryz.f108, [0, 1, 2], [6, 7, 8], (.q .z (.q .z (.q .z (.q (.q .z (.b [9, 10] (.l [0, 2, 9, 10, 18, 19, 20] (.q .z (.q (.c .z .z) (.q (.b [0, 2, 9, 10, 18, 19, 20] (.q .z (.q (.q .z (.c .z .z)) (.q .z (.q (.q .z (.c (.q .z .z) .z)) .z))))) .z)))))) (.q .z (.q (.q .z (.c (.q .z .z) .z)) (.q .z .z)))))))⟩
theorem q108 (fu : Nat) (cf : CF) (a0 a1 a2 : V) (h : H) (n : Id) (k : KV) : evF fu cf e108 [a0, a1, a2] h n k = s108 fu cf a0 a1 a2 h n k := by kernel_rfl
theorem p108 : PfOk Tryz.prog tbx mtab 108 (w3 (s108 fuX)) := pfo e108 Tryz.func108 (by kernel_rfl) (w3_ok (q108 fuX))
noncomputable def s109 (fu : Nat) (cf : CF) (a0 : V) (h : H) (n : Id) (k : KV) : R :=
 evBin2 tbx .eql 79 a0 .ns fun v1 =>
 brB v1 (
 k .ns h n) (
 evBuildSl tbx 79 0 [] h n fun v2 h n =>
 evApp tbx 79 79 v2 a0 h n fun v3 h n =>
 k v3 h n)
noncomputable def e109 : FE := ⟨Tryz.f109, bd Tryz.f109, [0], [2], (.q .z (.q (.q .z (.c (.q .z .z) .z)) (.q .z .z)))⟩
theorem q109 (fu : Nat) (cf : CF) (a0 : V) (h : H) (n : Id) (k : KV) : evF fu cf e109 [a0] h n k = s109 fu cf a0 h n k := by kernel_rfl
theorem p109 : PfOk Tryz.prog tbx mtab 109 (w1 (s109 fuX)) := pfo e109 Tryz.func109 (by kernel_rfl) (w1_ok (q109 fuX))
noncomputable def s110 (fu : Nat) (cf : CF) (a0 : V) (h : H) (n : Id) (k : KV) : R :=
 evMkMap h n fun v1 h n =>
 evAlloc tbx 227 h n fun v2 h n =>
 evStore tbx 227 v2 v1 h n fun _ h n =>
 cf 112 [a0] h n fun v3 h n =>
 let v4 : V := (.fn 169 [v2])
 cf 167 [v3, v4] h n fun v5 h n =>
 k v5 h n
noncomputable def e110 : FE := ⟨Tryz.f110, bd Tryz.f110, [0], [2], (.q .z (.q .z (.q .z .z)))⟩
theorem q110 (fu : Nat) (cf : CF) (a0 : V) (h : H) (n : Id) (k : KV) : evF fu cf e110 [a0] h n k = s110 fu cf a0 h n k := by kernel_rfl
theorem p110 : PfOk Tryz.prog tbx mtab 110 (w1 (s110 fuX)) := pfo e110 Tryz.func110 (by kernel_rfl) (w1_ok (q110 fuX))
noncomputable def s111 (fu : Nat) (cf : CF) (a0 a1 : V) (h : H) (n : Id) (k : KV) : R :=
 evBox a0 h n fun v1 h n =>
 evAlloc tbx 51 h n fun v2 h n =>
 evFa tbx 51 7 v1 fun v3 =>
 evLoad tbx 49 v3 h fun v4 =>
 cf 113 [v4] h n fun v5 h n =>
 evFa tbx 51 7 v1 fun v6 =>
 evStore tbx 49 v6 v5 h n fun _ h n =>
 jp (fun (s7 : VT [2, 4]) h n =>
 pc s7 fun v9 s10 =>
 pc s10 fun v11 s12 =>
 evLoad tbx 51 v9 h fun v13 =>
 evStore tbx 51 v11 v13 h n fun _ h n =>
 evLoad tbx 51 v11 h fun v14 =>
 k v14 h n) fun kk8 =>
 evLoad tbx 51 v1 h fun v15 =>
 cf 46 [v15] h n fun v16 h n =>
 cf 170 [a1, v16] h n fun v17 h n =>
 evExt 0 v17 fun v18 =>
 evExt 1 v17 fun v19 =>
 evAlloc tbx 51 h n fun v20 h n =>
 evStore tbx 51 v20 v18 h n fun _ h n =>
 brB v19 (
 evFa tbx 51 2 v1 fun v21 =>
 evLoad tbx 9 v21 h fun v22 =>
 evFa tbx 51 2 v20 fun v23 =>
 evLoad tbx 9 v23 h fun v24 =>
 alB n fun n' => sliA tbx 71 2 [(0, v22), (1, v24)] fun x mk => 
 (fun (v25 : V) h n =>
 evFa tbx 51 5 v1 fun v26 =>
 evLoad tbx 9 v26 h fun v27 =>
 evFa tbx 51 5 v20 fun v28 =>
 evLoad tbx 9 v28 h fun v29 =>
 alB n fun n' => sliA tbx 71 2 [(0, v27), (1, v29)] fun x mk => 
 (fun (v30 : V) h n =>
 evLoad tbx 9 v21 h fun w47 => cond (eqV 6 w47 v22) (
 evLoad tbx 9 v23 h fun w46 => cond (eqV 6 w46 v24) (
 ckO (vId v25) h fun id x' => sliA tbx 71 2 [(0, v22), (1, v24)] fun x mk => cond (eqO x' x) (cond (eqV 6 (mk id) v25) (
 evLoad tbx 9 v26 h fun w45 => cond (eqV 6 w45 v27) (
 evLoad tbx 9 v28 h fun w44 => cond (eqV 6 w44 v29) (
 ckO (vId v30) h fun id x' => sliA tbx 71 2 [(0, v27), (1, v29)] fun x mk => cond (eqO x' x) (cond (eqV 6 (mk id) v30) (
 cf 42 [v25] h n fun v31 h n =>
 evFa tbx 51 2 v1 fun v32 =>
 evLoad tbx 9 v26 h fun w43 => cond (eqV 6 w43 v27) (
 evLoad tbx 9 v28 h fun w42 => cond (eqV 6 w42 v29) (
 ckO (vId v30) h fun id x' => sliA tbx 71 2 [(0, v27), (1, v29)] fun x mk => cond (eqO x' x) (cond (eqV 6 (mk id) v30) (
 cf 42 [v30] h n fun v33 h n =>
 evStore tbx 9 v32 v31 h n fun _ h n =>
 evFa tbx 51 5 v1 fun v34 =>
 evStore tbx 9 v34 v33 h n fun _ h n =>
 evFa tbx 51 7 v1 fun v35 =>
 evLoad tbx 49 v35 h fun v36 =>
 evLen tbx 49 v36 fun v37 =>
 evBin2 tbx .eql 3 v37 (.i .i64 0) fun v38 =>
 brB v38 (
 evFa tbx 51 7 v20 fun v39 =>
 evLoad tbx 49 v39 h fun v40 =>
 evFa tbx 51 7 v1 fun v41 =>
 evStore tbx 49 v41 v40 h n fun _ h n =>
 kk8 (v1, v2, ()) h n) (
 kk8 (v1, v2, ()) h n)) none) none) none) none) none) none) none) none) none) none) none) none) (mk n) (hset x n h) n') (mk n) (hset x n h) n') (
 kk8 (v1, v2, ()) h n)
noncomputable def e111 : FE := ⟨Tryz.f111, bd Tryz.f111, [0, 1], [4], (.q .z (.q .z (.s [2, 4] (.q .z (.q .z (.c (.q .z (.q .z (.c .z .z))) .z))) (.q .z .z))))⟩
theorem q111 (fu : Nat) (cf : CF) (a0 a1 : V) (h : H) (n : Id) (k : KV) : evF fu cf e111 [a0, a1] h n k = s111 fu cf a0 a1 h n k := by kernel_rfl
theorem p111 : PfOk Tryz.prog tbx mtab 111 (w2 (s111 fuX)) := pfo e111 Tryz.func111 (by kernel_rfl) (w2_ok (q111 fuX))
noncomputable def s112 (fu : Nat) (cf : CF) (a0 : V) (h : H) (n : Id) (k : KV) : R :=
 evBin2 tbx .eql 30 a0 .ns fun v1 =>
 brB v1 (
 k .ns h n) (
 evBuildSl tbx 30 0 [] h n fun v2 h n =>
 evApp tbx 30 30 v2 a0 h n fun v3 h n =>
 k v3 h n)
noncomputable def e112 : FE := ⟨Tryz.f112, bd Tryz.f112, [0], [2], (.q .z (.q (.q .z (.c (.q .z .z) .z)) (.q .z .z)))⟩
theorem q112 (fu : Nat) (cf : CF) (a0 : V) (h : H) (n : Id) (k : KV) : evF fu cf e112 [a0] h n k = s112 fu cf a0 h n k := by kernel_rfl
theorem p112 : PfOk Tryz.prog tbx mtab 112 (w1 (s112 fuX)) := pfo e112 Tryz.func112 (by kernel_rfl) (w1_ok (q112 fuX))
noncomputable def s113 (fu : Nat) (cf : CF) (a0 : V) (h : H) (n : Id) (k : KV) : R :=
 evBin2 tbx .eql 49 a0 .ns fun v1 =>
 brB v1 (
 k .ns h n) (
 evBuildSl tbx 49 0 [] h n fun v2 h n =>
 evApp tbx 49 49 v2 a0 h n fun v3 h n =>
 k v3 h n)
noncomputable def e113 : FE := ⟨Tryz.f113, bd Tryz.f113, [0], [2], (.q .z (.q (.q .z (.c (.q .z .z) .z)) (.q .z .z)))⟩
theorem q113 (fu : Nat) (cf : CF) (a0 : V) (h : H) (n : Id) (k : KV) : evF fu cf e113 [a0] h n k = s113 fu cf a0 h n k := by kernel_rfl
theorem p113 : PfOk Tryz.prog tbx mtab 113 (w1 (s113 fuX)) := pfo e113 Tryz.func113 (by kernel_rfl) (w1_ok (q113 fuX))
noncomputable def s114 (fu : Nat) (cf : CF) (a0 : V) (h : H) (n : Id) (k : KV) : R :=
 cf 171 [a0, (.s 1 91)] h n fun v1 h n =>
 jp (fun (v2 : V) h n =>
 jp (fun (v4 : V) h n =>
 evPick v1 (.b true) v4 fun v6 =>
 k v6 h n) fun kk5 =>
 gdB v1 false ((cf 171 [v2, (.s 1 40)] h n kk5)) (kk5 (.tp []) h n)) fun kk3 =>
 gdB v1 false (kk3 a0 h n) (kk3 (.tp []) h n)
noncomputable def e114 : FE := ⟨Tryz.f114, bd Tryz.f114, [0], [2], (.q .z (.q .z .z))⟩
theorem q114 (fu : Nat) (cf : CF) (a0 : V) (h : H) (n : Id) (k : KV) : evF fu cf e114 [a0] h n k = s114 fu cf a0 h n k := by kernel_rfl
theorem p114 : PfOk Tryz.prog tbx mtab 114 (w1 (s114 fuX)) := pfo e114 Tryz.func114 (by kernel_rfl) (w1_ok (q114 fuX))
noncomputable def s115 (fu : Nat) (cf : CF) (a0 : V) (h : H) (n : Id) (k : KV) : R :=
 jp (fun (s3 : VT [2, 3]) h n =>
 pc s3 fun v6 s7 =>
 pc s7 fun v8 s9 =>
 k (.tp [v6, v8]) h n) fun kk1 =>
 jp (lpC [0, 4] (fun lo5 s4 h n =>
 pc s4 fun v10 s11 =>
 pc s11 fun v12 s13 =>
 cf 172 [v10] h n fun v14 h n =>
 evExt 0 v14 fun v15 =>
 evExt 1 v14 fun v16 =>
 evExt 2 v14 fun v17 =>
 evAlloc tbx 250 h n fun v18 h n =>
 evStore tbx 250 v18 v15 h n fun _ h n =>
 evUn .not v17 fun v19 =>
 jp (fun (v20 : V) h n =>
 jp (fun (v22 : V) h n =>
 jp (fun (v24 : V) h n =>
 evPick v19 (.b true) v24 fun v26 =>
 jp (fun (v27 : V) h n =>
 jp (fun (v29 : V) h n =>
 jp (fun (v31 : V) h n =>
 jp (fun (v33 : V) h n =>
 jp (fun (v35 : V) h n =>
 jp (fun (v37 : V) h n =>
 jp (fun (v39 : V) h n =>
 jp (fun (v41 : V) h n =>
 jp (fun (v43 : V) h n =>
 jp (fun (v45 : V) h n =>
 jp (fun (v47 : V) h n =>
 thenR (wsB (wV v33 true) (evLoad tbx 250 v43 h fun w49 => cond (eqV 6 w49 v45) (okR) none) (cond (eqV 2 v45 (.tp [])) okR none)) (
 thenR (wsB (wV v33 true) (evLoad tbx 250 v18 h fun w50 => cond (eqV 6 w50 v47) (okR) none) (cond (eqV 2 v47 (.tp [])) okR none)) (
 jp (fun (v51 : V) h n =>
 jp (fun (v53 : V) h n =>
 jp (fun (v55 : V) h n =>
 evPick v26 (.b true) v55 fun v57 =>
 brB v57 (
 k (.tp [.ns, (.i .i64 12)]) h n) (
 evLoad tbx 250 v18 h fun v58 =>
 evBuildSl tbx 185 1 [(0, v58)] h n fun v59 h n =>
 evApp tbx 185 185 v12 v59 h n fun v60 h n =>
 evBin2 tbx .eql 9 v16 (.s 0 0) fun v61 =>
 brB v61 (
 k (.tp [v60, (.i .i64 0)]) h n) (
 cf 174 [v16, (.s 1 44)] h n fun v62 h n =>
 evExt 0 v62 fun v63 =>
 evExt 1 v62 fun v64 =>
 evUn .not v64 fun v65 =>
 brB v65 (
 k (.tp [.ns, (.i .i64 12)]) h n) (
 lo5 (v63, v60, ()) h n)))) fun kk56 =>
 wsB (wV v26 false) ((evPick v33 v53 (.b false) fun v => kk56 v h n)) (kk56 (.tp []) h n)) fun kk54 =>
 wsB (wV v33 true) ((evUn .not v51 fun v => kk54 v h n)) (kk54 (.tp []) h n)) fun kk52 =>
 wsB (wV v33 true) ((cf 173 [v45, v47] h n kk52)) (kk52 (.tp []) h n)))) fun kk48 =>
 wsB (wV v33 true) ((evLoad tbx 250 v18 h fun v => kk48 v h n)) (kk48 (.tp []) h n)) fun kk46 =>
 wsB (wV v33 true) ((evLoad tbx 250 v43 h fun v => kk46 v h n)) (kk46 (.tp []) h n)) fun kk44 =>
 wsB (wV v33 true) ((evIa tbx 185 v35 v41 fun v => kk44 v h n)) (kk44 (.tp []) h n)) fun kk42 =>
 wsB (wV v33 true) ((evBin2 tbx .sub 3 v39 (.i .i64 1) fun v => kk42 v h n)) (kk42 (.tp []) h n)) fun kk40 =>
 wsB (wV v33 true) ((evLen tbx 185 v37 fun v => kk40 v h n)) (kk40 (.tp []) h n)) fun kk38 =>
 wsB (wV v33 true) (kk38 v12 h n) (kk38 (.tp []) h n)) fun kk36 =>
 wsB (wV v33 true) (kk36 v12 h n) (kk36 (.tp []) h n)) fun kk34 =>
 wsB (wV v26 false) (kk34 v31 h n) (kk34 (.tp []) h n)) fun kk32 =>
 wsB (wV v26 false) ((evBin2 tbx .gtr 3 v29 (.i .i64 0) fun v => kk32 v h n)) (kk32 (.tp []) h n)) fun kk30 =>
 wsB (wV v26 false) ((evLen tbx 185 v27 fun v => kk30 v h n)) (kk30 (.tp []) h n)) fun kk28 =>
 wsB (wV v26 false) (kk28 v12 h n) (kk28 (.tp []) h n)) fun kk25 =>
 wsB (wV v19 false) ((evBin2 tbx .geq 3 v22 (.i .i64 20) fun v => kk25 v h n)) (kk25 (.tp []) h n)) fun kk23 =>
 wsB (wV v19 false) ((evLen tbx 185 v20 fun v => kk23 v h n)) (kk23 (.tp []) h n)) fun kk21 =>
 wsB (wV v19 false) (kk21 v12 h n) (kk21 (.tp []) h n)) fu) fun lo2 =>
 cf 172 [a0] h n fun v66 h n =>
 evExt 0 v66 fun v67 =>
 evExt 1 v66 fun v68 =>
 evExt 2 v66 fun v69 =>
 evAlloc tbx 250 h n fun v70 h n =>
 evStore tbx 250 v70 v67 h n fun _ h n =>
 evUn .not v69 fun v71 =>
 jp (fun (v72 : V) h n =>
 jp (fun (v74 : V) h n =>
 jp (fun (v76 : V) h n =>
 evPick v71 (.b true) v76 fun v78 =>
 jp (fun (v79 : V) h n =>
 jp (fun (v81 : V) h n =>
 jp (fun (v83 : V) h n =>
 jp (fun (v85 : V) h n =>
 jp (fun (v87 : V) h n =>
 jp (fun (v89 : V) h n =>
 jp (fun (v91 : V) h n =>
 jp (fun (v93 : V) h n =>
 jp (fun (v95 : V) h n =>
 jp (fun (v97 : V) h n =>
 jp (fun (v99 : V) h n =>
 thenR (wsB (wV v85 true) (evLoad tbx 250 v95 h fun w101 => cond (eqV 6 w101 v97) (okR) none) (cond (eqV 2 v97 (.tp [])) okR none)) (
 thenR (wsB (wV v85 true) (evLoad tbx 250 v70 h fun w102 => cond (eqV 6 w102 v99) (okR) none) (cond (eqV 2 v99 (.tp [])) okR none)) (
 jp (fun (v103 : V) h n =>
 jp (fun (v105 : V) h n =>
 jp (fun (v107 : V) h n =>
 evPick v78 (.b true) v107 fun v109 =>
 brB v109 (
 k (.tp [.ns, (.i .i64 12)]) h n) (
 evLoad tbx 250 v70 h fun v110 =>
 evBuildSl tbx 185 1 [(0, v110)] h n fun v111 h n =>
 evApp tbx 185 185 .ns v111 h n fun v112 h n =>
 evBin2 tbx .eql 9 v68 (.s 0 0) fun v113 =>
 brB v113 (
 k (.tp [v112, (.i .i64 0)]) h n) (
 cf 174 [v68, (.s 1 44)] h n fun v114 h n =>
 evExt 0 v114 fun v115 =>
 evExt 1 v114 fun v116 =>
 evUn .not v116 fun v117 =>
 brB v117 (
 k (.tp [.ns, (.i .i64 12)]) h n) (
 lo2 (v115, v112, ()) h n)))) fun kk108 =>
 wsB (wV v78 false) ((evPick v85 v105 (.b false) fun v => kk108 v h n)) (kk108 (.tp []) h n)) fun kk106 =>
 wsB (wV v85 true) ((evUn .not v103 fun v => kk106 v h n)) (kk106 (.tp []) h n)) fun kk104 =>
 wsB (wV v85 true) ((cf 173 [v97, v99] h n kk104)) (kk104 (.tp []) h n)))) fun kk100 =>
 wsB (wV v85 true) ((evLoad tbx 250 v70 h fun v => kk100 v h n)) (kk100 (.tp []) h n)) fun kk98 =>
 wsB (wV v85 true) ((evLoad tbx 250 v95 h fun v => kk98 v h n)) (kk98 (.tp []) h n)) fun kk96 =>
 wsB (wV v85 true) ((evIa tbx 185 v87 v93 fun v => kk96 v h n)) (kk96 (.tp []) h n)) fun kk94 =>
 wsB (wV v85 true) ((evBin2 tbx .sub 3 v91 (.i .i64 1) fun v => kk94 v h n)) (kk94 (.tp []) h n)) fun kk92 =>
 wsB (wV v85 true) ((evLen tbx 185 v89 fun v => kk92 v h n)) (kk92 (.tp []) h n)) fun kk90 =>
 wsB (wV v85 true) (kk90 .ns h n) (kk90 (.tp []) h n)) fun kk88 =>
 wsB (wV v85 true) (kk88 .ns h n) (kk88 (.tp []) h n)) fun kk86 =>
 wsB (wV v78 false) (kk86 v83 h n) (kk86 (.tp []) h n)) fun kk84 =>
 wsB (wV v78 false) ((evBin2 tbx .gtr 3 v81 (.i .i64 0) fun v => kk84 v h n)) (kk84 (.tp []) h n)) fun kk82 =>
 wsB (wV v78 false) ((evLen tbx 185 v79 fun v => kk82 v h n)) (kk82 (.tp []) h n)) fun kk80 =>
 wsB (wV v78 false) (kk80 .ns h n) (kk80 (.tp []) h n)) fun kk77 =>
 wsB (wV v71 false) ((evBin2 tbx .geq 3 v74 (.i .i64 20) fun v => kk77 v h n)) (kk77 (.tp []) h n)) fun kk75 =>
 wsB (wV v71 false) ((evLen tbx 185 v72 fun v => kk75 v h n)) (kk75 (.tp []) h n)) fun kk73 =>
 wsB (wV v71 false) (kk73 .ns h n) (kk73 (.tp []) h n)
noncomputable def e115 : FE := ⟨Tryz.f115, bd Tryz.f115, [0], [2, 3], (.q .z (.g 0 [0, 4] [2, 3] (.q .z (.q .z (.q .z (.q (.q .z (.c (.q .z .z) .z)) (.q .z (.q (.q .z (.c (.q .z .z) .z)) (.q .z (.q (.q .z (.c (.q .z .z) .z)) (.q .z .z))))))))) (.q .z (.q .z (.q (.q .z (.c (.q .z .z) .z)) (.q .z (.q (.q .z (.c (.q .z .z) .z)) (.q .z (.q (.q .z (.c (.q .z .z) .z)) (.q .z .z))))))))))⟩
theorem q115 (fu : Nat) (cf : CF) (a0 : V) (h : H) (n : Id) (k : KV) : evF fu cf e115 [a0] h n k = s115 fu cf a0 h n k := by kernel_rfl
theorem p115 : PfOk Tryz.prog tbx mtab 115 (w1 (s115 fuX)) := pfo e115 Tryz.func115 (by kernel_rfl) (w1_ok (q115 fuX))
noncomputable def s123 (fu : Nat) (cf : CF) (a0 : V) (h : H) (n : Id) (k : KV) : R :=
 evBin2 tbx .geq 5 a0 (.i .u8 48) fun v1 =>
 jp (fun (v2 : V) h n =>
 jp (fun (v4 : V) h n =>
 evPick v1 v4 (.b false) fun v6 =>
 k v6 h n) fun kk5 =>
 gdB v1 true ((evBin2 tbx .leq 5 v2 (.i .u8 57) fun v => kk5 v h n)) (kk5 (.tp []) h n)) fun kk3 =>
 gdB v1 true (kk3 a0 h n) (kk3 (.tp []) h n)
noncomputable def e123 : FE := ⟨Tryz.f123, bd Tryz.f123, [0], [2], (.q .z (.q .z .z))⟩
theorem q123 (fu : Nat) (cf : CF) (a0 : V) (h : H) (n : Id) (k : KV) : evF fu cf e123 [a0] h n k = s123 fu cf a0 h n k := by kernel_rfl
theorem p123 : PfOk Tryz.prog tbx mtab 123 (w1 (s123 fuX)) := pfo e123 Tryz.func123 (by kernel_rfl) (w1_ok (q123 fuX))
noncomputable def s124 (fu : Nat) (cf : CF) (a0 : V) (h : H) (n : Id) (k : KV) : R :=
 evBin2 tbx .eql 5 a0 (.i .u8 9) fun v1 =>
 jp (fun (v2 : V) h n =>
 jp (fun (v4 : V) h n =>
 evPick v1 (.b true) v4 fun v6 =>
 jp (fun (v7 : V) h n =>
 jp (fun (v9 : V) h n =>
 evPick v6 (.b true) v9 fun v11 =>
 jp (fun (v12 : V) h n =>
 jp (fun (v14 : V) h n =>
 evPick v11 (.b true) v14 fun v16 =>
 k v16 h n) fun kk15 =>
 gdB v11 false ((evBin2 tbx .eql 5 v12 (.i .u8 32) fun v => kk15 v h n)) (kk15 (.tp []) h n)) fun kk13 =>
 gdB v11 false (kk13 a0 h n) (kk13 (.tp []) h n)) fun kk10 =>
 gdB v6 false ((evBin2 tbx .eql 5 v7 (.i .u8 13) fun v => kk10 v h n)) (kk10 (.tp []) h n)) fun kk8 =>
 gdB v6 false (kk8 a0 h n) (kk8 (.tp []) h n)) fun kk5 =>
 gdB v1 false ((evBin2 tbx .eql 5 v2 (.i .u8 10) fun v => kk5 v h n)) (kk5 (.tp []) h n)) fun kk3 =>
 gdB v1 false (kk3 a0 h n) (kk3 (.tp []) h n)
noncomputable def e124 : FE := ⟨Tryz.f124, bd Tryz.f124, [0], [2], (.q .z (.q .z .z))⟩
theorem q124 (fu : Nat) (cf : CF) (a0 : V) (h : H) (n : Id) (k : KV) : evF fu cf e124 [a0] h n k = s124 fu cf a0 h n k := by kernel_rfl
theorem p124 : PfOk Tryz.prog tbx mtab 124 (w1 (s124 fuX)) := pfo e124 Tryz.func124 (by kernel_rfl) (w1_ok (q124 fuX))
noncomputable def s129 (fu : Nat) (cf : CF) (a0 a1 a2 a3 a4 a5 : V) (h : H) (n : Id) (k : KV) : R :=
 cf 186 [a0, a1, a2, a4, a5] h n fun v1 h n =>
 evExt 0 v1 fun v2 =>
 evExt 1 v1 fun v3 =>
 cf 186 [a0, v3, a3, a4, a5] h n fun v4 h n =>
 evExt 0 v4 fun v5 =>
 evExt 1 v4 fun v6 =>
 cf 186 [a0, v2, v5, a4, a5] h n fun v7 h n =>
 evExt 0 v7 fun v8 =>
 evExt 1 v7 fun v9 =>
 k v9 h n
noncomputable def e129 : FE := ⟨Tryz.f129, bd Tryz.f129, [0, 1, 2, 3, 4, 5], [12], (.q .z (.q .z (.q .z (.q .z (.q .z .z)))))⟩
theorem q129 (fu : Nat) (cf : CF) (a0 a1 a2 a3 a4 a5 : V) (h : H) (n : Id) (k : KV) : evF fu cf e129 [a0, a1, a2, a3, a4, a5] h n k = s129 fu cf a0 a1 a2 a3 a4 a5 h n k := by kernel_rfl
theorem p129 : PfOk Tryz.prog tbx mtab 129 (w6 (s129 fuX)) := pfo e129 Tryz.func129 (by kernel_rfl) (w6_ok (q129 fuX))
noncomputable def s130 (fu : Nat) (cf : CF) (a0 a1 : V) (h : H) (n : Id) (k : KV) : R :=
 evBox a0 h n fun v1 h n =>
 evBox a1 h n fun v2 h n =>
 evFa tbx 203 0 v1 fun v3 =>
 evLoad tbx 3 v3 h fun v4 =>
 evFa tbx 203 0 v2 fun v5 =>
 evLoad tbx 3 v5 h fun v6 =>
 cf 187 [v4, v6] h n fun v7 h n =>
 evBin2 tbx .neq 3 v7 (.i .i64 0) fun v8 =>
 brB v8 (
 k v7 h n) (
 evFa tbx 203 0 v1 fun v9 =>
 evLoad tbx 3 v9 h fun v10 =>
 jp (fun (s11 : VT []) h n =>
 k (.i .i64 0) h n) fun kk12 =>
 evBin2 tbx .eql 3 v10 (.i .i64 8) fun v13 =>
 brB v13 (
 evFa tbx 203 1 v1 fun v14 =>
 evLoad tbx 9 v14 h fun v15 =>
 evFa tbx 203 1 v2 fun v16 =>
 evLoad tbx 9 v16 h fun v17 =>
 cf 56 [v15, v17] h n fun v18 h n =>
 k v18 h n) (
 jp (fun (s19 : VT [2, 3, 23]) h n =>
 pc s19 fun v21 s22 =>
 pc s22 fun v23 s24 =>
 pc s24 fun v25 s26 =>
 brB v25 (
 evFa tbx 203 1 v21 fun v27 =>
 evLoad tbx 9 v27 h fun v28 =>
 evLen tbx 9 v28 fun v29 =>
 evFa tbx 203 1 v23 fun v30 =>
 evLoad tbx 9 v30 h fun v31 =>
 evLen tbx 9 v31 fun v32 =>
 evFa tbx 203 1 v21 fun v33 =>
 evLoad tbx 9 v33 h fun v34 =>
 evFa tbx 203 1 v23 fun v35 =>
 evLoad tbx 9 v35 h fun v36 =>
 evLoad tbx 9 v27 h fun w46 => cond (eqV 6 w46 v28) (
 evLoad tbx 9 v30 h fun w45 => cond (eqV 6 w45 v31) (
 evLoad tbx 9 v33 h fun w44 => cond (eqV 6 w44 v34) (
 evLoad tbx 9 v35 h fun w43 => cond (eqV 6 w43 v36) (
 cf 187 [v29, v32] h n fun v37 h n =>
 evLoad tbx 9 v33 h fun w42 => cond (eqV 6 w42 v34) (
 evLoad tbx 9 v35 h fun w41 => cond (eqV 6 w41 v36) (
 cf 56 [v34, v36] h n fun v38 h n =>
 evBuildSl tbx 149 2 [(0, v37), (1, v38)] h n fun v39 h n =>
 cf 55 [v39] h n fun v40 h n =>
 k v40 h n) none) none) none) none) none) none) (
 kk12 (()) h n)) fun kk20 =>
 evBin2 tbx .eql 3 v10 (.i .i64 9) fun v47 =>
 brB v47 (
 kk20 (v1, v2, v47, ()) h n) (
 evBin2 tbx .eql 3 v10 (.i .i64 10) fun v48 =>
 kk20 (v1, v2, v48, ()) h n)))
noncomputable def e130 : FE := ⟨Tryz.f130, bd Tryz.f130, [0, 1], [4], (.q .z (.q (.q .z (.q .z (.c (.q .z .z) .z))) (.q (.q .z (.b [] (.q .z (.c (.q .z .z) (.s [2, 3, 23] (.q .z (.c .z .z)) (.c (.q .z .z) .z)))))) (.q .z .z))))⟩
theorem q130 (fu : Nat) (cf : CF) (a0 a1 : V) (h : H) (n : Id) (k : KV) : evF fu cf e130 [a0, a1] h n k = s130 fu cf a0 a1 h n k := by kernel_rfl
theorem p130 : PfOk Tryz.prog tbx mtab 130 (w2 (s130 fuX)) := pfo e130 Tryz.func130 (by kernel_rfl) (w2_ok (q130 fuX))
noncomputable def s131 (fu : Nat) (cf : CF) (a0 a1 : V) (h : H) (n : Id) (k : KV) : R :=
 evAlloc tbx 203 h n fun v1 h n =>
 evLen tbx 151 a0 fun v2 =>
 evBin2 tbx .lss 3 a1 v2 fun v3 =>
 brB v3 (
 evIa tbx 151 a0 a1 fun v4 =>
 evLoad tbx 203 v4 h fun v5 =>
 evStore tbx 203 v1 v5 h n fun _ h n =>
 evLoad tbx 203 v1 h fun v6 =>
 k v6 h n) (
 evBuild tbx 203 [(0, (.i .i64 6))] fun v7 =>
 evStore tbx 203 v1 v7 h n fun _ h n =>
 evLoad tbx 203 v1 h fun v8 =>
 k v8 h n)
noncomputable def e131 : FE := ⟨Tryz.f131, bd Tryz.f131, [0, 1], [4], (.q .z (.q (.q .z (.c (.q .z .z) .z)) (.q .z .z)))⟩
theorem q131 (fu : Nat) (cf : CF) (a0 a1 : V) (h : H) (n : Id) (k : KV) : evF fu cf e131 [a0, a1] h n k = s131 fu cf a0 a1 h n k := by kernel_rfl
theorem p131 : PfOk Tryz.prog tbx mtab 131 (w2 (s131 fuX)) := pfo e131 Tryz.func131 (by kernel_rfl) (w2_ok (q131 fuX))
noncomputable def s132 (fu : Nat) (cf : CF) (a0 : V) (h : H) (n : Id) (k : KV) : R :=
 evBuild tbx 210 [] fun v1 =>
 evBuildSl tbx 205 1 [(0, v1)] h n fun v2 h n =>
 evLen tbx 9 a0 fun v3 =>
 jp (fun (s4 : VT [3]) h n =>
 pc s4 fun v6 s7 =>
 k v6 h n) fun kk5 =>
 lpC [0, 3, 10, 11] (fun lo9 s8 h n =>
 pc s8 fun v10 s11 =>
 pc s11 fun v12 s13 =>
 pc s13 fun v14 s15 =>
 pc s15 fun v16 s17 =>
 evBin2 tbx .lss 3 v16 v14 fun v18 =>
 brB v18 (
 jp (fun (s19 : VT [0, 3, 10, 11]) h n =>
 pc s19 fun v21 s22 =>
 pc s22 fun v23 s24 =>
 pc s24 fun v25 s26 =>
 pc s26 fun v27 s28 =>
 evBin2 tbx .add 3 v27 (.i .i64 1) fun v29 =>
 lo9 (v21, v23, v25, v29, ()) h n) fun kk20 =>
 evIx tbx 9 v10 v16 fun v30 =>
 evLen tbx 205 v12 fun v31 =>
 evBin2 tbx .sub 3 v31 (.i .i64 1) fun v32 =>
 evIa tbx 205 v12 v32 fun v33 =>
 jp (fun (s34 : VT [0, 3, 5, 6, 10, 11]) h n =>
 pc s34 fun v36 s37 =>
 pc s37 fun v38 s39 =>
 pc s39 fun v40 s41 =>
 pc s41 fun v42 s43 =>
 pc s43 fun v44 s45 =>
 pc s45 fun v46 s47 =>
 evNc' v42 fun v48 =>
 evFa tbx 210 0 v48 fun v49 =>
 evLoad tbx 9 v49 h fun v50 =>
 evLoad tbx 9 v49 h fun w58 => cond (eqV 6 w58 v50) (
 evBuildSl tbx 73 1 [(0, v40)] h n fun v51 h n =>
 evRc tbx 73 9 v51 h fun v52 =>
 evBin2 tbx .add 9 v50 v52 fun v53 =>
 evNc' v42 fun v54 =>
 evFa tbx 210 0 v54 fun v55 =>
 evLoad tbx 9 v49 h fun w57 => cond (eqV 6 w57 v50) (
 evRc tbx 73 9 v51 h fun w56 => cond (eqV 6 w56 v52) (
 evStore tbx 9 v55 v53 h n fun _ h n =>
 kk20 (v36, v38, v44, v46, ()) h n) none) none) none) fun kk35 =>
 evBin2 tbx .eql 5 v30 (.i .u8 46) fun v59 =>
 jp (fun (v60 : V) h n =>
 jp (fun (v62 : V) h n =>
 evPick v59 (.b true) v62 fun v64 =>
 brB v64 (
 evBin2 tbx .eql 5 v30 (.i .u8 45) fun v65 =>
 evBuild tbx 210 [(1, v65)] fun v66 =>
 evBuildSl tbx 205 1 [(0, v66)] h n fun v67 h n =>
 evApp tbx 205 205 v12 v67 h n fun v68 h n =>
 kk20 (v10, v68, v14, v16, ()) h n) (
 evNc' v33 fun v69 =>
 evFa tbx 210 0 v69 fun v70 =>
 evLoad tbx 9 v70 h fun v71 =>
 evBin2 tbx .neq 9 v71 (.s 0 0) fun v72 =>
 jp (fun (v73 : V) h n =>
 jp (fun (v75 : V) h n =>
 jp (fun (v77 : V) h n =>
 jp (fun (v79 : V) h n =>
 jp (fun (v81 : V) h n =>
 evLoad tbx 9 v70 h fun w99 => cond (eqV 6 w99 v71) (
 jp (fun (v83 : V) h n =>
 jp (fun (v85 : V) h n =>
 jp (fun (v87 : V) h n =>
 evPick v72 v87 (.b false) fun v89 =>
 brB v89 (
 cf 188 [v30] h n fun v90 h n =>
 evNc' v33 fun v91 =>
 evFa tbx 210 2 v91 fun v92 =>
 evStore tbx 4 v92 v90 h n fun _ h n =>
 evBuild tbx 210 [(1, (.b true))] fun v93 =>
 evBuildSl tbx 205 1 [(0, v93)] h n fun v94 h n =>
 evApp tbx 205 205 v12 v94 h n fun v95 h n =>
 evLen tbx 205 v95 fun v96 =>
 evBin2 tbx .sub 3 v96 (.i .i64 1) fun v97 =>
 evIa tbx 205 v95 v97 fun v98 =>
 kk35 (v10, v95, v30, v98, v14, v16, ()) h n) (
 kk35 (v10, v12, v30, v33, v14, v16, ()) h n)) fun kk88 =>
 wsB (wV v72 true) ((evBin2 tbx .neq 4 v83 v85 fun v => kk88 v h n)) (kk88 (.tp []) h n)) fun kk86 =>
 wsB (wV v72 true) ((cf 188 [v81] h n kk86)) (kk86 (.tp []) h n)) fun kk84 =>
 wsB (wV v72 true) ((cf 188 [v73] h n kk84)) (kk84 (.tp []) h n)) none) fun kk82 =>
 wsB (wV v72 true) ((evIx tbx 9 v75 v79 fun v => kk82 v h n)) (kk82 (.tp []) h n)) fun kk80 =>
 wsB (wV v72 true) ((evBin2 tbx .sub 3 v77 (.i .i64 1) fun v => kk80 v h n)) (kk80 (.tp []) h n)) fun kk78 =>
 wsB (wV v72 true) (kk78 v16 h n) (kk78 (.tp []) h n)) fun kk76 =>
 wsB (wV v72 true) (kk76 v10 h n) (kk76 (.tp []) h n)) fun kk74 =>
 wsB (wV v72 true) (kk74 v30 h n) (kk74 (.tp []) h n))) fun kk63 =>
 gdB v59 false ((evBin2 tbx .eql 5 v60 (.i .u8 45) fun v => kk63 v h n)) (kk63 (.tp []) h n)) fun kk61 =>
 gdB v59 false (kk61 v30 h n) (kk61 (.tp []) h n)) (
 kk5 (v12, ()) h n)) fu (a0, v2, v3, (.i .i64 0), ()) h n
noncomputable def e132 : FE := ⟨Tryz.f132, bd Tryz.f132, [0], [2], (.q .z (.q .z (.q (.q .z (.b [3] (.l [0, 3, 10, 11] (.q .z (.q (.c .z .z) (.q (.b [0, 3, 10, 11] (.q .z (.q .z (.q (.b [0, 3, 5, 6, 10, 11] (.q .z (.c (.q .z .z) (.q .z (.c (.q .z (.q .z .z)) .z))))) .z)))) .z)))))) (.q .z .z))))⟩
theorem q132 (fu : Nat) (cf : CF) (a0 : V) (h : H) (n : Id) (k : KV) : evF fu cf e132 [a0] h n k = s132 fu cf a0 h n k := by kernel_rfl
theorem p132 : PfOk Tryz.prog tbx mtab 132 (w1 (s132 fuX)) := pfo e132 Tryz.func132 (by kernel_rfl) (w1_ok (q132 fuX))
noncomputable def s133 (fu : Nat) (cf : CF) (a0 : V) (h : H) (n : Id) (k : KV) : R :=
 evConv2 tbx mtab 9 73 a0 h n fun v1 h n =>
 evLen tbx 73 v1 fun v2 =>
 jp (fun (s3 : VT [3]) h n =>
 pc s3 fun v5 s6 =>
 evConv2 tbx mtab 73 9 v5 h n fun v7 h n =>
 k v7 h n) fun kk4 =>
 lpC [3, 8, 9, 10] (fun lo9 s8 h n =>
 pc s8 fun v10 s11 =>
 pc s11 fun v12 s13 =>
 pc s13 fun v14 s15 =>
 pc s15 fun v16 s17 =>
 evBin2 tbx .lss 3 v16 v14 fun v18 =>
 brB v18 (
 jp (fun (s19 : VT [3, 8, 9, 10]) h n =>
 pc s19 fun v21 s22 =>
 pc s22 fun v23 s24 =>
 pc s24 fun v25 s26 =>
 pc s26 fun v27 s28 =>
 evBin2 tbx .add 3 v27 (.i .i64 1) fun v29 =>
 lo9 (v21, v23, v25, v29, ()) h n) fun kk20 =>
 evIa tbx 73 v12 v16 fun v30 =>
 evLoad tbx 5 v30 h fun v31 =>
 evBin2 tbx .geq 5 v31 (.i .u8 65) fun v32 =>
 jp (fun (v33 : V) h n =>
 jp (fun (v35 : V) h n =>
 evPick v32 v35 (.b false) fun v37 =>
 brB v37 (
 evBin2 tbx .sub 5 v31 (.i .u8 65) fun v38 =>
 evBin2 tbx .add 5 v38 (.i .u8 97) fun v39 =>
 evIa tbx 73 v10 v16 fun v40 =>
 evStore tbx 5 v40 v39 h n fun _ h n =>
 kk20 (v10, v12, v14, v16, ()) h n) (
 kk20 (v10, v12, v14, v16, ()) h n)) fun kk36 =>
 gdB v32 true ((evBin2 tbx .leq 5 v33 (.i .u8 90) fun v => kk36 v h n)) (kk36 (.tp []) h n)) fun kk34 =>
 gdB v32 true (kk34 v31 h n) (kk34 (.tp []) h n)) (
 kk4 (v10, ()) h n)) fu (v1, v1, v2, (.i .i64 0), ()) h n
noncomputable def e133 : FE := ⟨Tryz.f133, bd Tryz.f133, [0], [2], (.q .z (.q .z (.q (.q .z (.b [3] (.l [3, 8, 9, 10] (.q .z (.q (.c .z .z) (.q (.b [3, 8, 9, 10] (.q .z (.q .z (.c .z .z)))) .z)))))) (.q .z .z))))⟩
theorem q133 (fu : Nat) (cf : CF) (a0 : V) (h : H) (n : Id) (k : KV) : evF fu cf e133 [a0] h n k = s133 fu cf a0 h n k := by kernel_rfl
theorem p133 : PfOk Tryz.prog tbx mtab 133 (w1 (s133 fuX)) := pfo e133 Tryz.func133 (by kernel_rfl) (w1_ok (q133 fuX))
noncomputable def s134 (fu : Nat) (cf : CF) (a0 : V) (h : H) (n : Id) (k : KV) : R :=
 evLen tbx 151 a0 fun v1 =>
 evBin2 tbx .sub 3 v1 (.i .i64 1) fun v2 =>
 jp (fun (s3 : VT []) h n =>
 k (.tp []) h n) fun kk4 =>
 lpC [0, 2, 3] (fun lo6 s5 h n =>
 pc s5 fun v7 s8 =>
 pc s8 fun v9 s10 =>
 pc s10 fun v11 s12 =>
 evBin2 tbx .lss 3 v9 v11 fun v13 =>
 brB v13 (
 jp (fun (s14 : VT [0, 2, 3]) h n =>
 pc s14 fun v16 s17 =>
 pc s17 fun v18 s19 =>
 pc s19 fun v20 s21 =>
 evBin2 tbx .add 3 v18 (.i .i64 1) fun v22 =>
 evBin2 tbx .sub 3 v20 (.i .i64 1) fun v23 =>
 lo6 (v16, v22, v23, ()) h n) fun kk15 =>
 evIa tbx 151 v7 v11 fun v24 =>
 evLoad tbx 203 v24 h fun v25 =>
 evIa tbx 151 v7 v9 fun v26 =>
 evLoad tbx 203 v26 h fun v27 =>
 evIa tbx 151 v7 v9 fun v28 =>
 evLoad tbx 203 v24 h fun w31 => cond (eqV 6 w31 v25) (
 evLoad tbx 203 v26 h fun w30 => cond (eqV 6 w30 v27) (
 evStore tbx 203 v28 v25 h n fun _ h n =>
 evIa tbx 151 v7 v11 fun v29 =>
 evStore tbx 203 v29 v27 h n fun _ h n =>
 kk15 (v7, v9, v11, ()) h n) none) none) (
 kk4 (()) h n)) fu (a0, (.i .i64 0), v2, ()) h n
noncomputable def e134 : FE := ⟨Tryz.f134, bd Tryz.f134, [0], [], (.q .z (.b [] (.l [0, 2, 3] (.q (.q .z (.c .z .z)) (.q (.b [0, 2, 3] .z) .z)))))⟩
theorem q134 (fu : Nat) (cf : CF) (a0 : V) (h : H) (n : Id) (k : KV) : evF fu cf e134 [a0] h n k = s134 fu cf a0 h n k := by kernel_rfl
theorem p134 : PfOk Tryz.prog tbx mtab 134 (w1 (s134 fuX)) := pfo e134 Tryz.func134 (by kernel_rfl) (w1_ok (q134 fuX))
noncomputable def s135 (fu : Nat) (cf : CF) (a0 : V) (h : H) (n : Id) (k : KV) : R :=
 evBox a0 h n fun v1 h n =>
 evAlloc tbx 203 h n fun v2 h n =>
 evFa tbx 210 0 v1 fun v3 =>
 evLoad tbx 9 v3 h fun v4 =>
 evBin2 tbx .neq 9 v4 (.s 0 0) fun v5 =>
 jp (fun (v6 : V) h n =>
 jp (fun (v8 : V) h n =>
 jp (fun (v10 : V) h n =>
 jp (fun (v12 : V) h n =>
 jp (fun (v14 : V) h n =>
 evPick v5 v14 (.b false) fun v16 =>
 brB v16 (
 evLoad tbx 210 v1 h fun v17 =>
 cf 189 [v17] h n fun v18 h n =>
 evStore tbx 203 v2 v18 h n fun _ h n =>
 evLoad tbx 203 v2 h fun v19 =>
 k v19 h n) (
 evFa tbx 210 0 v1 fun v20 =>
 evLoad tbx 9 v20 h fun v21 =>
 cf 190 [v21, (.s 1 48)] h n fun v22 h n =>
 jp (fun (s23 : VT [2, 3]) h n =>
 pc s23 fun v25 s26 =>
 pc s26 fun v27 s28 =>
 evBuild tbx 203 [(0, (.i .i64 10)), (1, v27)] fun v29 =>
 evStore tbx 203 v25 v29 h n fun _ h n =>
 evLoad tbx 203 v25 h fun v30 =>
 k v30 h n) fun kk24 =>
 evBin2 tbx .eql 9 v22 (.s 0 0) fun v31 =>
 brB v31 (
 evBuild tbx 203 [(0, (.i .i64 6))] fun v32 =>
 evStore tbx 203 v2 v32 h n fun _ h n =>
 evLoad tbx 203 v2 h fun v33 =>
 k v33 h n) (
 evFa tbx 210 1 v1 fun v34 =>
 evLoad tbx 4 v34 h fun v35 =>
 brB v35 (
 evBuild tbx 203 [(0, (.i .i64 9)), (1, v22)] fun v36 =>
 evStore tbx 203 v2 v36 h n fun _ h n =>
 evLoad tbx 203 v2 h fun v37 =>
 k v37 h n) (
 kk24 (v2, v22, ()) h n)))) fun kk15 =>
 gdB v5 true ((evUn .not v12 fun v => kk15 v h n)) (kk15 (.tp []) h n)) fun kk13 =>
 gdB v5 true ((cf 188 [v10] h n kk13)) (kk13 (.tp []) h n)) fun kk11 =>
 gdB v5 true ((evIx tbx 9 v8 (.i .i64 0) fun v => kk11 v h n)) (kk11 (.tp []) h n)) fun kk9 =>
 gdB v5 true ((evLoad tbx 9 v6 h fun v => kk9 v h n)) (kk9 (.tp []) h n)) fun kk7 =>
 gdB v5 true ((evFa tbx 210 0 v1 fun v => kk7 v h n)) (kk7 (.tp []) h n)
noncomputable def e135 : FE := ⟨Tryz.f135, bd Tryz.f135, [0], [2], (.q .z (.q (.q .z (.c (.q .z .z) .z)) (.q .z (.q (.b [2, 3] (.q .z (.c (.q .z .z) (.q .z (.c (.q .z .z) .z))))) (.q .z .z)))))⟩
theorem q135 (fu : Nat) (cf : CF) (a0 : V) (h : H) (n : Id) (k : KV) : evF fu cf e135 [a0] h n k = s135 fu cf a0 h n k := by kernel_rfl
theorem p135 : PfOk Tryz.prog tbx mtab 135 (w1 (s135 fuX)) := pfo e135 Tryz.func135 (by kernel_rfl) (w1_ok (q135 fuX))
noncomputable def s136 (fu : Nat) (cf : CF) (a0 a1 : V) (h : H) (n : Id) (k : KV) : R :=
 evLen tbx 73 a0 fun v1 =>
 jp (fun (s2 : VT []) h n =>
 k (.i .i64 (-1)) h n) fun kk3 =>
 lpC [0, 1, 7, 8] (fun lo5 s4 h n =>
 pc s4 fun v6 s7 =>
 pc s7 fun v8 s9 =>
 pc s9 fun v10 s11 =>
 pc s11 fun v12 s13 =>
 evBin2 tbx .lss 3 v12 v10 fun v14 =>
 brB v14 (
 jp (fun (s15 : VT [0, 1, 7, 8]) h n =>
 pc s15 fun v17 s18 =>
 pc s18 fun v19 s20 =>
 pc s20 fun v21 s22 =>
 pc s22 fun v23 s24 =>
 evBin2 tbx .add 3 v23 (.i .i64 1) fun v25 =>
 lo5 (v17, v19, v21, v25, ()) h n) fun kk16 =>
 evIa tbx 73 v6 v12 fun v26 =>
 evLoad tbx 5 v26 h fun v27 =>
 evCall cf v8 [v27] h n fun v28 h n =>
 brB v28 (
 k v12 h n) (
 kk16 (v6, v8, v10, v12, ()) h n)) (
 kk3 (()) h n)) fu (a0, a1, v1, (.i .i64 0), ()) h n
noncomputable def e136 : FE := ⟨Tryz.f136, bd Tryz.f136, [0, 1], [4], (.q .z (.q (.q .z (.b [] (.l [0, 1, 7, 8] (.q .z (.q (.c .z .z) (.q (.b [0, 1, 7, 8] (.q .z (.q .z (.c (.q .z .z) .z)))) .z)))))) (.q .z .z)))⟩
theorem q136 (fu : Nat) (cf : CF) (a0 a1 : V) (h : H) (n : Id) (k : KV) : evF fu cf e136 [a0, a1] h n k = s136 fu cf a0 a1 h n k := by kernel_rfl
theorem p136 : PfOk Tryz.prog tbx mtab 136 (w2 (s136 fuX)) := pfo e136 Tryz.func136 (by kernel_rfl) (w2_ok (q136 fuX))
noncomputable def s137 (fu : Nat) (cf : CF) (a0 a1 : V) (h : H) (n : Id) (k : KV) : R :=
 cf 191 [a0, a1] h n fun v1 h n =>
 k v1 h n
noncomputable def e137 : FE := ⟨Tryz.f137, bd Tryz.f137, [0, 1], [4], (.q .z (.q .z .z))⟩
theorem q137 (fu : Nat) (cf : CF) (a0 a1 : V) (h : H) (n : Id) (k : KV) : evF fu cf e137 [a0, a1] h n k = s137 fu cf a0 a1 h n k := by kernel_rfl
theorem p137 : PfOk Tryz.prog tbx mtab 137 (w2 (s137 fuX)) := pfo e137 Tryz.func137 (by kernel_rfl) (w2_ok (q137 fuX))
noncomputable def s139 (fu : Nat) (cf : CF) (a0 : V) (h : H) (n : Id) (k : KV) : R :=
 cf 140 [a0] h n fun v1 h n =>
 evUn .not v1 fun v2 =>
 k v2 h n
noncomputable def e139 : FE := ⟨Tryz.f139, bd Tryz.f139, [0], [2], (.q .z (.q .z .z))⟩
theorem q139 (fu : Nat) (cf : CF) (a0 : V) (h : H) (n : Id) (k : KV) : evF fu cf e139 [a0] h n k = s139 fu cf a0 h n k := by kernel_rfl
theorem p139 : PfOk Tryz.prog tbx mtab 139 (w1 (s139 fuX)) := pfo e139 Tryz.func139 (by kernel_rfl) (w1_ok (q139 fuX))
noncomputable def s140 (fu : Nat) (cf : CF) (a0 : V) (h : H) (n : Id) (k : KV) : R :=
 evBin2 tbx .gtr 5 a0 (.i .u8 32) fun v1 =>
 jp (fun (v2 : V) h n =>
 jp (fun (v4 : V) h n =>
 evPick v1 (.b true) v4 fun v6 =>
 k v6 h n) fun kk5 =>
 gdB v1 false ((cf 195 [v2] h n kk5)) (kk5 (.tp []) h n)) fun kk3 =>
 gdB v1 false (kk3 a0 h n) (kk3 (.tp []) h n)
noncomputable def e140 : FE := ⟨Tryz.f140, bd Tryz.f140, [0], [2], (.q .z (.q .z .z))⟩
theorem q140 (fu : Nat) (cf : CF) (a0 : V) (h : H) (n : Id) (k : KV) : evF fu cf e140 [a0] h n k = s140 fu cf a0 h n k := by kernel_rfl
theorem p140 : PfOk Tryz.prog tbx mtab 140 (w1 (s140 fuX)) := pfo e140 Tryz.func140 (by kernel_rfl) (w1_ok (q140 fuX))
noncomputable def s141 (fu : Nat) (cf : CF) (a0 a1 : V) (h : H) (n : Id) (k : KV) : R :=
 jp (fun (s1 : VT [0]) h n =>
 pc s1 fun v3 s4 =>
 cf 202 [v3] h n fun v5 h n =>
 k v5 h n) fun kk2 =>
 cf 196 [a0, (.s 4 1008807213)] h n fun v6 h n =>
 brB v6 (
 cf 197 [a0] h n fun v7 h n =>
 k v7 h n) (
 cf 196 [a0, (.s 9 1109208233209138266459)] h n fun v8 h n =>
 brB v8 (
 cf 198 [a0] h n fun v9 h n =>
 k v9 h n) (
 cf 196 [a0, (.s 2 15423)] h n fun v10 h n =>
 brB v10 (
 cf 199 [a0, a1] h n fun v11 h n =>
 k v11 h n) (
 cf 196 [a0, (.s 2 15407)] h n fun v12 h n =>
 brB v12 (
 cf 200 [a0] h n fun v13 h n =>
 k v13 h n) (
 cf 196 [a0, (.s 1 60)] h n fun v14 h n =>
 brB v14 (
 cf 201 [a0] h n fun v15 h n =>
 k v15 h n) (
 kk2 (a0, ()) h n)))))
noncomputable def e141 : FE := ⟨Tryz.f141, bd Tryz.f141, [0, 1], [4], (.q .z (.q (.b [0] (.q .z (.c (.q .z .z) (.q .z (.c (.q .z .z) (.q .z (.c (.q .z .z) (.q .z (.c (.q .z .z) (.q .z (.c (.q .z .z) .z))))))))))) (.q .z .z)))⟩
theorem q141 (fu : Nat) (cf : CF) (a0 a1 : V) (h : H) (n : Id) (k : KV) : evF fu cf e141 [a0, a1] h n k = s141 fu cf a0 a1 h n k := by kernel_rfl
theorem p141 : PfOk Tryz.prog tbx mtab 141 (w2 (s141 fuX)) := pfo e141 Tryz.func141 (by kernel_rfl) (w2_ok (q141 fuX))
noncomputable def s142 (fu : Nat) (cf : CF) (a0 a1 : V) (h : H) (n : Id) (k : KV) : R :=
 evBox a1 h n fun v1 h n =>
 evFa tbx 222 0 v1 fun v2 =>
 evLoad tbx 3 v2 h fun v3 =>
 jp (fun (s4 : VT []) h n =>
 k (.i .i64 5) h n) fun kk5 =>
 jp (fun (s6 : VT [0, 3, 6, 7]) h n =>
 pc s6 fun v8 s9 =>
 pc s9 fun v10 s11 =>
 pc s11 fun v12 s13 =>
 pc s13 fun v14 s15 =>
 brB v14 (
 k (.i .i64 0) h n) (
 evBin2 tbx .eql 3 v12 (.i .i64 1) fun v16 =>
 brB v16 (
 evLoad tbx 222 v10 h fun v17 =>
 cf 203 [v8, v17] h n fun v18 h n =>
 k v18 h n) (
 evBin2 tbx .eql 3 v12 (.i .i64 2) fun v19 =>
 brB v19 (
 evLoad tbx 222 v10 h fun v20 =>
 cf 204 [v8, v20] h n fun v21 h n =>
 k v21 h n) (
 evBin2 tbx .eql 3 v12 (.i .i64 3) fun v22 =>
 brB v22 (
 evFa tbx 222 2 v10 fun v23 =>
 evLoad tbx 9 v23 h fun v24 =>
 cf 205 [v8, v24] h n fun v25 h n =>
 k v25 h n) (
 kk5 (()) h n))))) fun kk7 =>
 evBin2 tbx .eql 3 v3 (.i .i64 4) fun v26 =>
 brB v26 (
 kk7 (a0, v1, v3, v26, ()) h n) (
 evBin2 tbx .eql 3 v3 (.i .i64 5) fun v27 =>
 kk7 (a0, v1, v3, v27, ()) h n)
noncomputable def e142 : FE := ⟨Tryz.f142, bd Tryz.f142, [0, 1], [4], (.q .z (.q (.q .z (.b [] (.s [0, 3, 6, 7] (.q .z (.c .z .z)) (.c (.q .z .z) (.q .z (.c (.q .z .z) (.q .z (.c (.q .z .z) (.q .z (.c (.q .z .z) .z)))))))))) (.q .z .z)))⟩
theorem q142 (fu : Nat) (cf : CF) (a0 a1 : V) (h : H) (n : Id) (k : KV) : evF fu cf e142 [a0, a1] h n k = s142 fu cf a0 a1 h n k := by kernel_rfl
theorem p142 : PfOk Tryz.prog tbx mtab 142 (w2 (s142 fuX)) := pfo e142 Tryz.func142 (by kernel_rfl) (w2_ok (q142 fuX))
noncomputable def s143 (fu : Nat) (cf : CF) (a0 : V) (h : H) (n : Id) (k : KV) : R :=
 evBox a0 h n fun v1 h n =>
 evFa tbx 162 1 v1 fun v2 =>
 evLoad tbx 9 v2 h fun v3 =>
 evBin2 tbx .eql 9 v3 (.s 0 0) fun v4 =>
 brB v4 (
 evFa tbx 162 2 v1 fun v5 =>
 evLoad tbx 9 v5 h fun v6 =>
 evBin2 tbx .neq 9 v6 (.s 0 0) fun v7 =>
 jp (fun (v8 : V) h n =>
 jp (fun (v10 : V) h n =>
 jp (fun (v12 : V) h n =>
 evPick v7 v12 (.b false) fun v14 =>
 jp (fun (v15 : V) h n =>
 jp (fun (v17 : V) h n =>
 jp (fun (v19 : V) h n =>
 jp (fun (v21 : V) h n =>
 evPick v14 v21 (.b false) fun v23 =>
 k v23 h n) fun kk22 =>
 gdB v14 true ((evBin2 tbx .eql 3 v19 (.i .i64 0) fun v => kk22 v h n)) (kk22 (.tp []) h n)) fun kk20 =>
 gdB v14 true ((evLen tbx 160 v17 fun v => kk20 v h n)) (kk20 (.tp []) h n)) fun kk18 =>
 gdB v14 true ((evLoad tbx 160 v15 h fun v => kk18 v h n)) (kk18 (.tp []) h n)) fun kk16 =>
 gdB v14 true ((evFa tbx 162 3 v1 fun v => kk16 v h n)) (kk16 (.tp []) h n)) fun kk13 =>
 gdB v7 true ((cf 206 [v10] h n kk13)) (kk13 (.tp []) h n)) fun kk11 =>
 gdB v7 true ((evLoad tbx 9 v8 h fun v => kk11 v h n)) (kk11 (.tp []) h n)) fun kk9 =>
 gdB v7 true ((evFa tbx 162 2 v1 fun v => kk9 v h n)) (kk9 (.tp []) h n)) (
 evFa tbx 162 1 v1 fun v24 =>
 evLoad tbx 9 v24 h fun v25 =>
 cf 207 [v25] h n fun v26 h n =>
 jp (fun (v27 : V) h n =>
 jp (fun (v29 : V) h n =>
 jp (fun (v31 : V) h n =>
 evPick v26 v31 (.b false) fun v33 =>
 jp (fun (v34 : V) h n =>
 jp (fun (v36 : V) h n =>
 jp (fun (v38 : V) h n =>
 evPick v33 v38 (.b false) fun v40 =>
 k v40 h n) fun kk39 =>
 gdB v33 true ((cf 208 [v36] h n kk39)) (kk39 (.tp []) h n)) fun kk37 =>
 gdB v33 true ((evLoad tbx 160 v34 h fun v => kk37 v h n)) (kk37 (.tp []) h n)) fun kk35 =>
 gdB v33 true ((evFa tbx 162 3 v1 fun v => kk35 v h n)) (kk35 (.tp []) h n)) fun kk32 =>
 gdB v26 true ((evBin2 tbx .eql 9 v29 (.s 0 0) fun v => kk32 v h n)) (kk32 (.tp []) h n)) fun kk30 =>
 gdB v26 true ((evLoad tbx 9 v27 h fun v => kk30 v h n)) (kk30 (.tp []) h n)) fun kk28 =>
 gdB v26 true ((evFa tbx 162 2 v1 fun v => kk28 v h n)) (kk28 (.tp []) h n))
noncomputable def e143 : FE := ⟨Tryz.f143, bd Tryz.f143, [0], [2], (.q .z (.q (.q .z (.c (.q .z .z) .z)) (.q .z .z)))⟩
theorem q143 (fu : Nat) (cf : CF) (a0 : V) (h : H) (n : Id) (k : KV) : evF fu cf e143 [a0] h n k = s143 fu cf a0 h n k := by kernel_rfl
theorem p143 : PfOk Tryz.prog tbx mtab 143 (w1 (s143 fuX)) := pfo e143 Tryz.func143 (by kernel_rfl) (w1_ok (q143 fuX))
noncomputable def s144 (fu : Nat) (cf : CF) (a0 a1 : V) (h : H) (n : Id) (k : KV) : R :=
 cf 209 [a0, a1] h n fun v1 h n =>
 evBin2 tbx .add 3 v1 (.i .i64 1) fun v2 =>
 evSlc tbx 224 a0 none (some v2) fun v3 =>
 evBin2 tbx .geq 3 v1 (.i .i64 0) fun v4 =>
 k (.tp [v3, v4]) h n
noncomputable def e144 : FE := ⟨Tryz.f144, bd Tryz.f144, [0, 1], [4, 5], (.q .z (.q .z (.q .z .z)))⟩
theorem q144 (fu : Nat) (cf : CF) (a0 a1 : V) (h : H) (n : Id) (k : KV) : evF fu cf e144 [a0, a1] h n k = s144 fu cf a0 a1 h n k := by kernel_rfl
theorem p144 : PfOk Tryz.prog tbx mtab 144 (w2 (s144 fuX)) := pfo e144 Tryz.func144 (by kernel_rfl) (w2_ok (q144 fuX))
noncomputable def s145 (fu : Nat) (cf : CF) (a0 a1 a2 : V) (h : H) (n : Id) (k : KV) : R :=
 jp (fun (s3 : VT [6]) h n =>
 pc s3 fun v6 s7 =>
 k v6 h n) fun kk1 =>
 jp (lpC [0, 1, 2, 7] (fun lo5 s4 h n =>
 pc s4 fun v8 s9 =>
 pc s9 fun v10 s11 =>
 pc s11 fun v12 s13 =>
 pc s13 fun v14 s15 =>
 evLen tbx 149 v14 fun v16 =>
 evBin2 tbx .gtr 3 v16 (.i .i64 0) fun v17 =>
 brB v17 (
 evIa tbx 149 v14 (.i .i64 0) fun v18 =>
 evLoad tbx 3 v18 h fun v19 =>
 evCall cf v12 [v19] h n fun v20 h n =>
 evBin2 tbx .neq 33 v20 (.i .i64 0) fun v21 =>
 brB v21 (
 k v20 h n) (
 evSlc tbx 149 v14 (some (.i .i64 1)) none fun v22 =>
 lo5 (v8, v10, v12, v22, ()) h n)) (
 evNc' v8 fun v23 =>
 evFa tbx 166 0 v23 fun v24 =>
 evLoad tbx 114 v24 h fun v25 =>
 cf 211 [v25, v10] h n fun v26 h n =>
 cf 210 [v26] h n fun v27 h n =>
 evBin2 tbx .neq 9 v27 (.s 0 0) fun v28 =>
 brB v28 (
 k (.i .i64 10) h n) (
 k (.i .i64 0) h n))) fu) fun lo2 =>
 evNc' a0 fun v29 =>
 evFa tbx 166 1 v29 fun v30 =>
 evLoad tbx 164 v30 h fun v31 =>
 evIa tbx 164 v31 a1 fun v32 =>
 evLoad tbx 149 v32 h fun v33 =>
 evLen tbx 149 v33 fun v34 =>
 evBin2 tbx .gtr 3 v34 (.i .i64 0) fun v35 =>
 brB v35 (
 evIa tbx 149 v33 (.i .i64 0) fun v36 =>
 evLoad tbx 3 v36 h fun v37 =>
 evCall cf a2 [v37] h n fun v38 h n =>
 evBin2 tbx .neq 33 v38 (.i .i64 0) fun v39 =>
 brB v39 (
 k v38 h n) (
 evSlc tbx 149 v33 (some (.i .i64 1)) none fun v40 =>
 lo2 (a0, a1, a2, v40, ()) h n)) (
 evNc' a0 fun v41 =>
 evFa tbx 166 0 v41 fun v42 =>
 evLoad tbx 114 v42 h fun v43 =>
 cf 211 [v43, a1] h n fun v44 h n =>
 cf 210 [v44] h n fun v45 h n =>
 evBin2 tbx .neq 9 v45 (.s 0 0) fun v46 =>
 brB v46 (
 k (.i .i64 10) h n) (
 k (.i .i64 0) h n))
noncomputable def e145 : FE := ⟨Tryz.f145, bd Tryz.f145, [0, 1, 2], [6], (.q .z (.g 0 [0, 1, 2, 7] [6] (.q .z (.q .z (.q (.q .z (.c (.q (.q .z (.q .z (.c (.q .z .z) .z))) (.q .z .z)) .z)) (.q (.q .z (.c (.q .z .z) .z)) (.q .z .z))))) (.q .z (.q (.q .z (.c (.q (.q .z (.q .z (.c (.q .z .z) .z))) (.q .z .z)) .z)) (.q (.q .z (.c (.q .z .z) .z)) (.q .z .z))))))⟩
theorem q145 (fu : Nat) (cf : CF) (a0 a1 a2 : V) (h : H) (n : Id) (k : KV) : evF fu cf e145 [a0, a1, a2] h n k = s145 fu cf a0 a1 a2 h n k := by kernel_rfl
theorem p145 : PfOk Tryz.prog tbx mtab 145 (w3 (s145 fuX)) := pfo e145 Tryz.func145 (by kernel_rfl) (w3_ok (q145 fuX))
noncomputable def s146 (fu : Nat) (cf : CF) (a0 a1 a2 a3 : V) (h : H) (n : Id) (k : KV) : R :=
 evLoad tbx 163 a1 h fun v1 =>
 evNc' v1 fun v2 =>
 evFa tbx 166 0 v2 fun v3 =>
 evLoad tbx 114 v3 h fun v4 =>
 evIa tbx 114 v4 a0 fun v5 =>
 evFa tbx 162 1 v5 fun v6 =>
 evLoad tbx 9 v6 h fun v7 =>
 evLoad tbx 177 a2 h fun v8 =>
 evLook tbx mtab 177 v8 v7 true h fun v9 =>
 evExt 0 v9 fun v10 =>
 evExt 1 v9 fun v11 =>
 jp (fun (s12 : VT [0, 3, 6, 7]) h n =>
 pc s12 fun v14 s15 =>
 pc s15 fun v16 s17 =>
 pc s17 fun v18 s19 =>
 pc s19 fun v20 s21 =>
 evLoad tbx 227 v16 h fun v22 =>
 evMapUpd mtab 227 v22 v18 (.b true) h n fun _ h n =>
 evCall cf v20 [v14] h n fun v23 h n =>
 k v23 h n) fun kk13 =>
 evUn .not v11 fun v24 =>
 brB v24 (
 k (.i .i64 0) h n) (
 evLoad tbx 227 a3 h fun v25 =>
 evLook tbx mtab 227 v25 v7 false h fun v26 =>
 brB v26 (
 k (.i .i64 9) h n) (
 kk13 (a0, a3, v7, v10, ()) h n))
noncomputable def e146 : FE := ⟨Tryz.f146, bd Tryz.f146, [0, 1, 2, 3], [5], (.q .z (.q .z (.q .z (.q (.b [0, 3, 6, 7] (.q .z (.c (.q .z .z) (.q .z (.c (.q .z .z) .z))))) (.q .z (.q .z .z))))))⟩
theorem q146 (fu : Nat) (cf : CF) (a0 a1 a2 a3 : V) (h : H) (n : Id) (k : KV) : evF fu cf e146 [a0, a1, a2, a3] h n k = s146 fu cf a0 a1 a2 a3 h n k := by kernel_rfl
theorem p146 : PfOk Tryz.prog tbx mtab 146 (w4 (s146 fuX)) := pfo e146 Tryz.func146 (by kernel_rfl) (w4_ok (q146 fuX))
noncomputable def s147 (fu : Nat) (cf : CF) (a0 a1 a2 : V) (h : H) (n : Id) (k : KV) : R :=
 evLoad tbx 163 a1 h fun v1 =>
 cf 148 [v1, a0] h n fun v2 h n =>
 evExt 0 v2 fun v3 =>
 evExt 1 v2 fun v4 =>
 evLoad tbx 169 a2 h fun v5 =>
 evNc' v5 fun v6 =>
 evStore tbx 9 v6 v3 h n fun _ h n =>
 k v4 h n
noncomputable def e147 : FE := ⟨Tryz.f147, bd Tryz.f147, [0, 1, 2], [4], (.q .z (.q .z (.q .z (.q .z .z))))⟩
theorem q147 (fu : Nat) (cf : CF) (a0 a1 a2 : V) (h : H) (n : Id) (k : KV) : evF fu cf e147 [a0, a1, a2] h n k = s147 fu cf a0 a1 a2 h n k := by kernel_rfl
theorem p147 : PfOk Tryz.prog tbx mtab 147 (w3 (s147 fuX)) := pfo e147 Tryz.func147 (by kernel_rfl) (w3_ok (q147 fuX))
noncomputable def s148 (fu : Nat) (cf : CF) (a0 a1 : V) (h : H) (n : Id) (k : KV) : R :=
 evNc' a0 fun v1 =>
 evFa tbx 166 0 v1 fun v2 =>
 evLoad tbx 114 v2 h fun v3 =>
 cf 211 [v3, a1] h n fun v4 h n =>
 cf 210 [v4] h n fun v5 h n =>
 evNc' a0 fun v6 =>
 evFa tbx 166 1 v6 fun v7 =>
 evLoad tbx 164 v7 h fun v8 =>
 evIa tbx 164 v8 a1 fun v9 =>
 evLoad tbx 149 v9 h fun v10 =>
 evLen tbx 149 v10 fun v11 =>
 evBin2 tbx .gtr 3 v11 (.i .i64 0) fun v12 =>
 jp (fun (v13 : V) h n =>
 jp (fun (v15 : V) h n =>
 jp (fun (v17 : V) h n =>
 evPick v12 (.b true) v17 fun v19 =>
 brB v19 (
 k (.tp [(.s 0 0), (.i .i64 10)]) h n) (
 k (.tp [v5, (.i .i64 0)]) h n)) fun kk18 =>
 gdB v12 false ((evBin2 tbx .gtr 3 v15 (.i .i64 500) fun v => kk18 v h n)) (kk18 (.tp []) h n)) fun kk16 =>
 gdB v12 false ((evLen tbx 9 v13 fun v => kk16 v h n)) (kk16 (.tp []) h n)) fun kk14 =>
 gdB v12 false (kk14 v5 h n) (kk14 (.tp []) h n)
noncomputable def e148 : FE := ⟨Tryz.f148, bd Tryz.f148, [0, 1], [4, 5], (.q .z (.q .z (.q (.q .z (.c (.q .z .z) .z)) (.q .z .z))))⟩
theorem q148 (fu : Nat) (cf : CF) (a0 a1 : V) (h : H) (n : Id) (k : KV) : evF fu cf e148 [a0, a1] h n k = s148 fu cf a0 a1 h n k := by kernel_rfl
theorem p148 : PfOk Tryz.prog tbx mtab 148 (w2 (s148 fuX)) := pfo e148 Tryz.func148 (by kernel_rfl) (w2_ok (q148 fuX))
noncomputable def s149 (fu : Nat) (cf : CF) (a0 a1 a2 : V) (h : H) (n : Id) (k : KV) : R :=
 evLoad tbx 163 a1 h fun v1 =>
 evLoad tbx 163 a1 h fun v2 =>
 evLoad tbx 171 a2 h fun v3 =>
 evNc' v3 fun v4 =>
 evFa tbx 24 0 v4 fun v5 =>
 evLoad tbx 163 a1 h fun v6 =>
 evLoad tbx 171 a2 h fun v7 =>
 evNc' v7 fun v8 =>
 evFa tbx 24 1 v8 fun v9 =>
 evLoad tbx 163 a1 h fun v10 =>
 evLoad tbx 171 a2 h fun v11 =>
 evNc' v11 fun v12 =>
 evFa tbx 24 2 v12 fun v13 =>
 evLoad tbx 163 a1 h fun w54 => cond (eqV 6 w54 v1) (
 evLoad tbx 163 a1 h fun w53 => cond (eqV 6 w53 v2) (
 evLoad tbx 171 a2 h fun w52 => cond (eqV 6 w52 v3) (
 evLoad tbx 163 a1 h fun w51 => cond (eqV 6 w51 v6) (
 evLoad tbx 171 a2 h fun w50 => cond (eqV 6 w50 v7) (
 evLoad tbx 163 a1 h fun w49 => cond (eqV 6 w49 v10) (
 evLoad tbx 171 a2 h fun w48 => cond (eqV 6 w48 v11) (
 cf 99 [v2, v5] h n fun v14 h n =>
 evLoad tbx 163 a1 h fun w47 => cond (eqV 6 w47 v1) (
 evLoad tbx 163 a1 h fun w46 => cond (eqV 6 w46 v6) (
 evLoad tbx 171 a2 h fun w45 => cond (eqV 6 w45 v7) (
 evLoad tbx 163 a1 h fun w44 => cond (eqV 6 w44 v10) (
 evLoad tbx 171 a2 h fun w43 => cond (eqV 6 w43 v11) (
 cf 99 [v6, v9] h n fun v15 h n =>
 evLoad tbx 163 a1 h fun w42 => cond (eqV 6 w42 v1) (
 evLoad tbx 163 a1 h fun w41 => cond (eqV 6 w41 v10) (
 evLoad tbx 171 a2 h fun w40 => cond (eqV 6 w40 v11) (
 cf 99 [v10, v13] h n fun v16 h n =>
 alB n fun n' => litA [((.s 7 29117745638426980), v14), ((.s 10 460180866011107895298404), v15), ((.s 7 33325589488824174), v16)] fun x mk => 
 (fun (v17 : V) h n =>
 evLoad tbx 163 a1 h fun w39 => cond (eqV 6 w39 v1) (
 ckO (vId v17) h fun id x' => litA [((.s 7 29117745638426980), v14), ((.s 10 460180866011107895298404), v15), ((.s 7 33325589488824174), v16)] fun x mk => cond (eqO x' x) (cond (eqV 6 (mk id) v17) (
 cf 98 [v1, a0, v17] h n fun v18 h n =>
 evLoad tbx 171 a2 h fun v19 =>
 evNc' v19 fun v20 =>
 evFa tbx 24 0 v20 fun v21 =>
 evLoad tbx 9 v21 h fun v22 =>
 evLoad tbx 171 a2 h fun v23 =>
 evNc' v23 fun v24 =>
 evFa tbx 24 1 v24 fun v25 =>
 evLoad tbx 9 v25 h fun v26 =>
 evLoad tbx 171 a2 h fun v27 =>
 evNc' v27 fun v28 =>
 evFa tbx 24 2 v28 fun v29 =>
 evLoad tbx 9 v29 h fun v30 =>
 evLoad tbx 171 a2 h fun w38 => cond (eqV 6 w38 v19) (
 evLoad tbx 9 v21 h fun w37 => cond (eqV 6 w37 v22) (
 evLoad tbx 171 a2 h fun w36 => cond (eqV 6 w36 v23) (
 evLoad tbx 9 v25 h fun w35 => cond (eqV 6 w35 v26) (
 evLoad tbx 171 a2 h fun w34 => cond (eqV 6 w34 v27) (
 evLoad tbx 9 v29 h fun w33 => cond (eqV 6 w33 v30) (
 evBuildSl tbx 71 3 [(0, v22), (1, v26), (2, v30)] h n fun v31 h n =>
 cf 104 [v18, v31] h n fun v32 h n =>
 k v32 h n) none) none) none) none) none) none) none) none) none) (mk n) (hset x n h) n') none) none) none) none) none) none) none) none) none) none) none) none) none) none) none
noncomputable def e149 : FE := ⟨Tryz.f149, bd Tryz.f149, [0, 1, 2], [4], (.q .z (.q .z (.q .z .z)))⟩
theorem q149 (fu : Nat) (cf : CF) (a0 a1 a2 : V) (h : H) (n : Id) (k : KV) : evF fu cf e149 [a0, a1, a2] h n k = s149 fu cf a0 a1 a2 h n k := by kernel_rfl
theorem p149 : PfOk Tryz.prog tbx mtab 149 (w3 (s149 fuX)) := pfo e149 Tryz.func149 (by kernel_rfl) (w3_ok (q149 fuX))
noncomputable def s150 (fu : Nat) (cf : CF) (a0 a1 a2 : V) (h : H) (n : Id) (k : KV) : R :=
 evMkMap h n fun v1 h n =>
 evAlloc tbx 227 h n fun v2 h n =>
 evStore tbx 227 v2 v1 h n fun _ h n =>
 evLoad tbx 163 a1 h fun v3 =>
 let v4 : V := (.fn 151 [a1, v2, a2])
 cf 145 [v3, a0, v4] h n fun v5 h n =>
 k v5 h n
noncomputable def e150 : FE := ⟨Tryz.f150, bd Tryz.f150, [0, 1, 2], [4], (.q .z (.q .z (.q .z .z)))⟩
theorem q150 (fu : Nat) (cf : CF) (a0 a1 a2 : V) (h : H) (n : Id) (k : KV) : evF fu cf e150 [a0, a1, a2] h n k = s150 fu cf a0 a1 a2 h n k := by kernel_rfl
theorem p150 : PfOk Tryz.prog tbx mtab 150 (w3 (s150 fuX)) := pfo e150 Tryz.func150 (by kernel_rfl) (w3_ok (q150 fuX))
noncomputable def s151 (fu : Nat) (cf : CF) (a0 a1 a2 a3 : V) (h : H) (n : Id) (k : KV) : R :=
 evLoad tbx 163 a1 h fun v1 =>
 evNc' v1 fun v2 =>
 evFa tbx 166 0 v2 fun v3 =>
 evLoad tbx 114 v3 h fun v4 =>
 evIa tbx 114 v4 a0 fun v5 =>
 evFa tbx 162 1 v5 fun v6 =>
 evLoad tbx 9 v6 h fun v7 =>
 jp (fun (s8 : VT [0, 1, 2, 3, 6]) h n =>
 pc s8 fun v10 s11 =>
 pc s11 fun v12 s13 =>
 pc s13 fun v14 s15 =>
 pc s15 fun v16 s17 =>
 pc s17 fun v18 s19 =>
 evLoad tbx 227 v14 h fun v20 =>
 evMapUpd mtab 227 v20 v18 (.b true) h n fun _ h n =>
 evLoad tbx 163 v12 h fun v21 =>
 cf 148 [v21, v10] h n fun v22 h n =>
 evExt 0 v22 fun v23 =>
 evExt 1 v22 fun v24 =>
 evLoad tbx 173 v16 h fun v25 =>
 evLoad tbx 173 v16 h fun v26 =>
 evNc' v26 fun v27 =>
 evLoad tbx 29 v27 h fun v28 =>
 evBuild tbx 57 [(0, v18), (1, v23)] fun v29 =>
 evLoad tbx 173 v16 h fun w39 => cond (eqV 6 w39 v25) (
 evLoad tbx 173 v16 h fun w38 => cond (eqV 6 w38 v26) (
 evLoad tbx 29 v27 h fun w37 => cond (eqV 6 w37 v28) (
 evBuildSl tbx 29 1 [(0, v29)] h n fun v30 h n =>
 evLoad tbx 173 v16 h fun w36 => cond (eqV 6 w36 v25) (
 evLoad tbx 173 v16 h fun w35 => cond (eqV 6 w35 v26) (
 evLoad tbx 29 v27 h fun w34 => cond (eqV 6 w34 v28) (
 evApp tbx 29 29 v28 v30 h n fun v31 h n =>
 evNc' v25 fun v32 =>
 evLoad tbx 173 v16 h fun w33 => cond (eqV 6 w33 v25) (
 evStore tbx 29 v32 v31 h n fun _ h n =>
 k v24 h n) none) none) none) none) none) none) none) fun kk9 =>
 evLoad tbx 227 a2 h fun v40 =>
 evLook tbx mtab 227 v40 v7 false h fun v41 =>
 brB v41 (
 k (.i .i64 9) h n) (
 evLoad tbx 173 a3 h fun v42 =>
 evNc' v42 fun v43 =>
 evLoad tbx 29 v43 h fun v44 =>
 evLen tbx 29 v44 fun v45 =>
 evBin2 tbx .geq 3 v45 (.i .i64 100) fun v46 =>
 brB v46 (
 k (.i .i64 3) h n) (
 kk9 (a0, a1, a2, a3, v7, ()) h n))
noncomputable def e151 : FE := ⟨Tryz.f151, bd Tryz.f151, [0, 1, 2, 3], [5], (.q .z (.q .z (.q (.b [0, 1, 2, 3, 6] (.q .z (.c (.q .z .z) (.q .z (.c (.q .z .z) .z))))) (.q .z (.q .z (.q .z (.q .z .z)))))))⟩
theorem q151 (fu : Nat) (cf : CF) (a0 a1 a2 a3 : V) (h : H) (n : Id) (k : KV) : evF fu cf e151 [a0, a1, a2, a3] h n k = s151 fu cf a0 a1 a2 a3 h n k := by kernel_rfl
theorem p151 : PfOk Tryz.prog tbx mtab 151 (w4 (s151 fuX)) := pfo e151 Tryz.func151 (by kernel_rfl) (w4_ok (q151 fuX))
noncomputable def s152 (fu : Nat) (cf : CF) (a0 a1 a2 : V) (h : H) (n : Id) (k : KV) : R :=
 evLoad tbx 163 a1 h fun v1 =>
 evLoad tbx 163 a1 h fun v2 =>
 evLoad tbx 175 a2 h fun v3 =>
 evLoad tbx 163 a1 h fun w10 => cond (eqV 6 w10 v1) (
 evLoad tbx 163 a1 h fun w9 => cond (eqV 6 w9 v2) (
 evLoad tbx 175 a2 h fun w8 => cond (eqV 6 w8 v3) (
 cf 103 [v2, v3] h n fun v4 h n =>
 alB n fun n' => litA [((.s 12 31071133266037411630683874675), v4)] fun x mk => 
 (fun (v5 : V) h n =>
 evLoad tbx 163 a1 h fun w7 => cond (eqV 6 w7 v1) (
 ckO (vId v5) h fun id x' => litA [((.s 12 31071133266037411630683874675), v4)] fun x mk => cond (eqO x' x) (cond (eqV 6 (mk id) v5) (
 cf 98 [v1, a0, v5] h n fun v6 h n =>
 k v6 h n) none) none) none) (mk n) (hset x n h) n') none) none) none
noncomputable def e152 : FE := ⟨Tryz.f152, bd Tryz.f152, [0, 1, 2], [4], (.q .z (.q .z .z))⟩
theorem q152 (fu : Nat) (cf : CF) (a0 a1 a2 : V) (h : H) (n : Id) (k : KV) : evF fu cf e152 [a0, a1, a2] h n k = s152 fu cf a0 a1 a2 h n k := by kernel_rfl
theorem p152 : PfOk Tryz.prog tbx mtab 152 (w3 (s152 fuX)) := pfo e152 Tryz.func152 (by kernel_rfl) (w3_ok (q152 fuX))
noncomputable def s153 (fu : Nat) (cf : CF) (a0 a1 a2 : V) (h : H) (n : Id) (k : KV) : R :=
 evLoad tbx 163 a1 h fun v1 =>
 let v2 : V := (.fn 155 [a1, a2])
 cf 154 [v1, a0, (.s 10 474107868439291559306105), (.i .i64 200), v2] h n fun v3 h n =>
 k v3 h n
noncomputable def e153 : FE := ⟨Tryz.f153, bd Tryz.f153, [0, 1, 2], [4], (.q .z (.q .z .z))⟩
theorem q153 (fu : Nat) (cf : CF) (a0 a1 a2 : V) (h : H) (n : Id) (k : KV) : evF fu cf e153 [a0, a1, a2] h n k = s153 fu cf a0 a1 a2 h n k := by kernel_rfl
theorem p153 : PfOk Tryz.prog tbx mtab 153 (w3 (s153 fuX)) := pfo e153 Tryz.func153 (by kernel_rfl) (w3_ok (q153 fuX))
noncomputable def s154 (fu : Nat) (cf : CF) (a0 a1 a2 a3 a4 : V) (h : H) (n : Id) (k : KV) : R :=
 evBox a0 h n fun v1 h n =>
 evBox a2 h n fun v2 h n =>
 evBox a3 h n fun v3 h n =>
 evBox a4 h n fun v4 h n =>
 evAlloc tbx 3 h n fun v5 h n =>
 evStore tbx 3 v5 (.i .i64 0) h n fun _ h n =>
 evLoad tbx 163 v1 h fun v6 =>
 let v7 : V := (.fn 212 [v1, v2, v5, v3, v4])
 cf 145 [v6, a1, v7] h n fun v8 h n =>
 k v8 h n
noncomputable def e154 : FE := ⟨Tryz.f154, bd Tryz.f154, [0, 1, 2, 3, 4], [10], (.q .z (.q .z (.q .z .z)))⟩
theorem q154 (fu : Nat) (cf : CF) (a0 a1 a2 a3 a4 : V) (h : H) (n : Id) (k : KV) : evF fu cf e154 [a0, a1, a2, a3, a4] h n k = s154 fu cf a0 a1 a2 a3 a4 h n k := by kernel_rfl
theorem p154 : PfOk Tryz.prog tbx mtab 154 (w5 (s154 fuX)) := pfo e154 Tryz.func154 (by kernel_rfl) (w5_ok (q154 fuX))
noncomputable def s155 (fu : Nat) (cf : CF) (a0 a1 a2 : V) (h : H) (n : Id) (k : KV) : R :=
 evAlloc tbx 51 h n fun v1 h n =>
 evLoad tbx 163 a1 h fun v2 =>
 evLoad tbx 163 a1 h fun v3 =>
 evFa tbx 51 0 v1 fun v4 =>
 evLoad tbx 163 a1 h fun v5 =>
 evFa tbx 51 1 v1 fun v6 =>
 evLoad tbx 163 a1 h fun v7 =>
 evFa tbx 51 2 v1 fun v8 =>
 evLoad tbx 163 a1 h fun v9 =>
 evFa tbx 51 3 v1 fun v10 =>
 evLoad tbx 163 a1 h fun v11 =>
 evFa tbx 51 4 v1 fun v12 =>
 evLoad tbx 163 a1 h fun v13 =>
 evFa tbx 51 5 v1 fun v14 =>
 evLoad tbx 163 a1 h fun v15 =>
 evFa tbx 51 6 v1 fun v16 =>
 evLoad tbx 163 a1 h fun v17 =>
 evFa tbx 51 7 v1 fun v18 =>
 evLoad tbx 163 a1 h fun w95 => cond (eqV 6 w95 v2) (
 evLoad tbx 163 a1 h fun w94 => cond (eqV 6 w94 v3) (
 evLoad tbx 163 a1 h fun w93 => cond (eqV 6 w93 v5) (
 evLoad tbx 163 a1 h fun w92 => cond (eqV 6 w92 v7) (
 evLoad tbx 163 a1 h fun w91 => cond (eqV 6 w91 v9) (
 evLoad tbx 163 a1 h fun w90 => cond (eqV 6 w90 v11) (
 evLoad tbx 163 a1 h fun w89 => cond (eqV 6 w89 v13) (
 evLoad tbx 163 a1 h fun w88 => cond (eqV 6 w88 v15) (
 evLoad tbx 163 a1 h fun w87 => cond (eqV 6 w87 v17) (
 cf 99 [v3, v4] h n fun v19 h n =>
 evLoad tbx 163 a1 h fun w86 => cond (eqV 6 w86 v2) (
 evLoad tbx 163 a1 h fun w85 => cond (eqV 6 w85 v5) (
 evLoad tbx 163 a1 h fun w84 => cond (eqV 6 w84 v7) (
 evLoad tbx 163 a1 h fun w83 => cond (eqV 6 w83 v9) (
 evLoad tbx 163 a1 h fun w82 => cond (eqV 6 w82 v11) (
 evLoad tbx 163 a1 h fun w81 => cond (eqV 6 w81 v13) (
 evLoad tbx 163 a1 h fun w80 => cond (eqV 6 w80 v15) (
 evLoad tbx 163 a1 h fun w79 => cond (eqV 6 w79 v17) (
 cf 99 [v5, v6] h n fun v20 h n =>
 evLoad tbx 163 a1 h fun w78 => cond (eqV 6 w78 v2) (
 evLoad tbx 163 a1 h fun w77 => cond (eqV 6 w77 v7) (
 evLoad tbx 163 a1 h fun w76 => cond (eqV 6 w76 v9) (
 evLoad tbx 163 a1 h fun w75 => cond (eqV 6 w75 v11) (
 evLoad tbx 163 a1 h fun w74 => cond (eqV 6 w74 v13) (
 evLoad tbx 163 a1 h fun w73 => cond (eqV 6 w73 v15) (
 evLoad tbx 163 a1 h fun w72 => cond (eqV 6 w72 v17) (
 cf 99 [v7, v8] h n fun v21 h n =>
 evLoad tbx 163 a1 h fun w71 => cond (eqV 6 w71 v2) (
 evLoad tbx 163 a1 h fun w70 => cond (eqV 6 w70 v9) (
 evLoad tbx 163 a1 h fun w69 => cond (eqV 6 w69 v11) (
 evLoad tbx 163 a1 h fun w68 => cond (eqV 6 w68 v13) (
 evLoad tbx 163 a1 h fun w67 => cond (eqV 6 w67 v15) (
 evLoad tbx 163 a1 h fun w66 => cond (eqV 6 w66 v17) (
 cf 99 [v9, v10] h n fun v22 h n =>
 evLoad tbx 163 a1 h fun w65 => cond (eqV 6 w65 v2) (
 evLoad tbx 163 a1 h fun w64 => cond (eqV 6 w64 v11) (
 evLoad tbx 163 a1 h fun w63 => cond (eqV 6 w63 v13) (
 evLoad tbx 163 a1 h fun w62 => cond (eqV 6 w62 v15) (
 evLoad tbx 163 a1 h fun w61 => cond (eqV 6 w61 v17) (
 cf 99 [v11, v12] h n fun v23 h n =>
 evLoad tbx 163 a1 h fun w60 => cond (eqV 6 w60 v2) (
 evLoad tbx 163 a1 h fun w59 => cond (eqV 6 w59 v13) (
 evLoad tbx 163 a1 h fun w58 => cond (eqV 6 w58 v15) (
 evLoad tbx 163 a1 h fun w57 => cond (eqV 6 w57 v17) (
 cf 99 [v13, v14] h n fun v24 h n =>
 evLoad tbx 163 a1 h fun w56 => cond (eqV 6 w56 v2) (
 evLoad tbx 163 a1 h fun w55 => cond (eqV 6 w55 v15) (
 evLoad tbx 163 a1 h fun w54 => cond (eqV 6 w54 v17) (
 cf 156 [v15, v16] h n fun v25 h n =>
 evLoad tbx 163 a1 h fun w53 => cond (eqV 6 w53 v2) (
 evLoad tbx 163 a1 h fun w52 => cond (eqV 6 w52 v17) (
 cf 157 [v17, v18] h n fun v26 h n =>
 alB n fun n' => litA [((.s 7 29117745638426980), v19), ((.s 10 460180866011107895298404), v20), ((.s 7 33325589488824174), v21), ((.s 4 1954115685), v22), ((.s 10 469513552247196035409266), v23), ((.s 5 495589486693), v24), ((.s 8 8030046131791487340), v25), ((.s 10 479179788288925102993011), v26)] fun x mk => 
 (fun (v27 : V) h n =>
 evLoad tbx 163 a1 h fun w51 => cond (eqV 6 w51 v2) (
 ckO (vId v27) h fun id x' => litA [((.s 7 29117745638426980), v19), ((.s 10 460180866011107895298404), v20), ((.s 7 33325589488824174), v21), ((.s 4 1954115685), v22), ((.s 10 469513552247196035409266), v23), ((.s 5 495589486693), v24), ((.s 8 8030046131791487340), v25), ((.s 10 479179788288925102993011), v26)] fun x mk => cond (eqO x' x) (cond (eqV 6 (mk id) v27) (
 cf 98 [v2, a0, v27] h n fun v28 h n =>
 evLoad tbx 175 a2 h fun v29 =>
 evLoad tbx 175 a2 h fun v30 =>
 evNc' v30 fun v31 =>
 evLoad tbx 30 v31 h fun v32 =>
 evLoad tbx 51 v1 h fun v33 =>
 evLoad tbx 175 a2 h fun w50 => cond (eqV 6 w50 v29) (
 evLoad tbx 175 a2 h fun w49 => cond (eqV 6 w49 v30) (
 evLoad tbx 30 v31 h fun w48 => cond (eqV 6 w48 v32) (
 evLoad tbx 51 v1 h fun w47 => cond (eqV 6 w47 v33) (
 evBuildSl tbx 30 1 [(0, v33)] h n fun v34 h n =>
 evLoad tbx 175 a2 h fun w46 => cond (eqV 6 w46 v29) (
 evLoad tbx 175 a2 h fun w45 => cond (eqV 6 w45 v30) (
 evLoad tbx 30 v31 h fun w44 => cond (eqV 6 w44 v32) (
 evApp tbx 30 30 v32 v34 h n fun v35 h n =>
 evNc' v29 fun v36 =>
 evLoad tbx 175 a2 h fun w43 => cond (eqV 6 w43 v29) (
 evStore tbx 30 v36 v35 h n fun _ h n =>
 evFa tbx 51 0 v1 fun v37 =>
 evLoad tbx 9 v37 h fun v38 =>
 evFa tbx 51 1 v1 fun v39 =>
 evLoad tbx 9 v39 h fun v40 =>
 evBuildSl tbx 71 2 [(0, v38), (1, v40)] h n fun v41 h n =>
 cf 104 [v28, v41] h n fun v42 h n =>
 k v42 h n) none) none) none) none) none) none) none) none) none) none) none) (mk n) (hset x n h) n') none) none) none) none) none) none) none) none) none) none) none) none) none) none) none) none) none) none) none) none) none) none) none) none) none) none) none) none) none) none) none) none) none) none) none) none) none) none) none) none) none) none) none) none
noncomputable def e155 : FE := ⟨Tryz.f155, bd Tryz.f155, [0, 1, 2], [4], (.q .z (.q .z (.q .z (.q .z (.q .z .z)))))⟩
theorem q155 (fu : Nat) (cf : CF) (a0 a1 a2 : V) (h : H) (n : Id) (k : KV) : evF fu cf e155 [a0, a1, a2] h n k = s155 fu cf a0 a1 a2 h n k := by kernel_rfl
theorem p155 : PfOk Tryz.prog tbx mtab 155 (w3 (s155 fuX)) := pfo e155 Tryz.func155 (by kernel_rfl) (w3_ok (q155 fuX))
noncomputable def s156 (fu : Nat) (cf : CF) (a0 a1 : V) (h : H) (n : Id) (k : KV) : R :=
 evBox a0 h n fun v1 h n =>
 evBox a1 h n fun v2 h n =>
 let v3 : V := (.fn 213 [v1, v2])
 k v3 h n
noncomputable def e156 : FE := ⟨Tryz.f156, bd Tryz.f156, [0, 1], [4], (.q .z (.q .z .z))⟩
theorem q156 (fu : Nat) (cf : CF) (a0 a1 : V) (h : H) (n : Id) (k : KV) : evF fu cf e156 [a0, a1] h n k = s156 fu cf a0 a1 h n k := by kernel_rfl
theorem p156 : PfOk Tryz.prog tbx mtab 156 (w2 (s156 fuX)) := pfo e156 Tryz.func156 (by kernel_rfl) (w2_ok (q156 fuX))
noncomputable def s157 (fu : Nat) (cf : CF) (a0 a1 : V) (h : H) (n : Id) (k : KV) : R :=
 evBox a0 h n fun v1 h n =>
 evBox a1 h n fun v2 h n =>
 let v3 : V := (.fn 214 [v1, v2])
 k v3 h n
noncomputable def e157 : FE := ⟨Tryz.f157, bd Tryz.f157, [0, 1], [4], (.q .z (.q .z .z))⟩
theorem q157 (fu : Nat) (cf : CF) (a0 a1 : V) (h : H) (n : Id) (k : KV) : evF fu cf e157 [a0, a1] h n k = s157 fu cf a0 a1 h n k := by kernel_rfl
theorem p157 : PfOk Tryz.prog tbx mtab 157 (w2 (s157 fuX)) := pfo e157 Tryz.func157 (by kernel_rfl) (w2_ok (q157 fuX))
noncomputable def s158 (fu : Nat) (cf : CF) (a0 : V) (h : H) (n : Id) (k : KV) : R :=
 evLen tbx 71 a0 fun v1 =>
 jp (fun (s2 : VT []) h n =>
 k (.i .i64 0) h n) fun kk3 =>
 lpC [5, 6, 7] (fun lo5 s4 h n =>
 pc s4 fun v6 s7 =>
 pc s7 fun v8 s9 =>
 pc s9 fun v10 s11 =>
 evBin2 tbx .lss 3 v10 v8 fun v12 =>
 brB v12 (
 jp (fun (s13 : VT [5, 6, 7]) h n =>
 pc s13 fun v15 s16 =>
 pc s16 fun v17 s18 =>
 pc s18 fun v19 s20 =>
 evBin2 tbx .add 3 v19 (.i .i64 1) fun v21 =>
 lo5 (v15, v17, v21, ()) h n) fun kk14 =>
 evIa tbx 71 v6 v10 fun v22 =>
 evLoad tbx 9 v22 h fun v23 =>
 evBin2 tbx .eql 9 v23 (.s 0 0) fun v24 =>
 brB v24 (
 k (.i .i64 10) h n) (
 kk14 (v6, v8, v10, ()) h n)) (
 kk3 (()) h n)) fu (a0, v1, (.i .i64 0), ()) h n
noncomputable def e158 : FE := ⟨Tryz.f158, bd Tryz.f158, [0], [2], (.q .z (.q (.q .z (.b [] (.l [5, 6, 7] (.q .z (.q (.c .z .z) (.q (.b [5, 6, 7] (.q .z (.q .z (.c (.q .z .z) .z)))) .z)))))) (.q .z .z)))⟩
theorem q158 (fu : Nat) (cf : CF) (a0 : V) (h : H) (n : Id) (k : KV) : evF fu cf e158 [a0] h n k = s158 fu cf a0 h n k := by kernel_rfl
theorem p158 : PfOk Tryz.prog tbx mtab 158 (w1 (s158 fuX)) := pfo e158 Tryz.func158 (by kernel_rfl) (w1_ok (q158 fuX))
noncomputable def s159 (fu : Nat) (cf : CF) (a0 : V) (h : H) (n : Id) (k : KV) : R :=
 jp (fun (s1 : VT [0]) h n =>
 pc s1 fun v3 s4 =>
 evLen tbx 9 v3 fun v5 =>
 evBin2 tbx .geq 3 v5 (.i .i64 1) fun v6 =>
 jp (fun (v7 : V) h n =>
 jp (fun (v9 : V) h n =>
 jp (fun (v11 : V) h n =>
 evPick v6 v11 (.b false) fun v13 =>
 k v13 h n) fun kk12 =>
 gdB v6 true ((evBin2 tbx .leq 3 v9 (.i .i64 100) fun v => kk12 v h n)) (kk12 (.tp []) h n)) fun kk10 =>
 gdB v6 true ((evLen tbx 9 v7 fun v => kk10 v h n)) (kk10 (.tp []) h n)) fun kk8 =>
 gdB v6 true (kk8 v3 h n) (kk8 (.tp []) h n)) fun kk2 =>
 lpC [0, 3] (fun lo15 s14 h n =>
 pc s14 fun v16 s17 =>
 pc s17 fun v18 s19 =>
 evLen tbx 9 v16 fun v20 =>
 evBin2 tbx .lss 3 v18 v20 fun v21 =>
 brB v21 (
 jp (fun (s22 : VT [0, 3]) h n =>
 pc s22 fun v24 s25 =>
 pc s25 fun v26 s27 =>
 evBin2 tbx .add 3 v26 (.i .i64 1) fun v28 =>
 lo15 (v24, v28, ()) h n) fun kk23 =>
 evIx tbx 9 v16 v18 fun v29 =>
 evBin2 tbx .lss 5 v29 (.i .u8 33) fun v30 =>
 jp (fun (v31 : V) h n =>
 jp (fun (v33 : V) h n =>
 evPick v30 (.b true) v33 fun v35 =>
 jp (fun (v36 : V) h n =>
 jp (fun (v38 : V) h n =>
 evPick v35 (.b true) v38 fun v40 =>
 jp (fun (v41 : V) h n =>
 jp (fun (v43 : V) h n =>
 evPick v40 (.b true) v43 fun v45 =>
 jp (fun (v46 : V) h n =>
 jp (fun (v48 : V) h n =>
 evPick v45 (.b true) v48 fun v50 =>
 jp (fun (v51 : V) h n =>
 jp (fun (v53 : V) h n =>
 evPick v50 (.b true) v53 fun v55 =>
 jp (fun (v56 : V) h n =>
 jp (fun (v58 : V) h n =>
 evPick v55 (.b true) v58 fun v60 =>
 brB v60 (
 k (.b false) h n) (
 kk23 (v16, v18, ()) h n)) fun kk59 =>
 gdB v55 false ((evBin2 tbx .eql 5 v56 (.i .u8 44) fun v => kk59 v h n)) (kk59 (.tp []) h n)) fun kk57 =>
 gdB v55 false (kk57 v29 h n) (kk57 (.tp []) h n)) fun kk54 =>
 gdB v50 false ((evBin2 tbx .eql 5 v51 (.i .u8 41) fun v => kk54 v h n)) (kk54 (.tp []) h n)) fun kk52 =>
 gdB v50 false (kk52 v29 h n) (kk52 (.tp []) h n)) fun kk49 =>
 gdB v45 false ((evBin2 tbx .eql 5 v46 (.i .u8 40) fun v => kk49 v h n)) (kk49 (.tp []) h n)) fun kk47 =>
 gdB v45 false (kk47 v29 h n) (kk47 (.tp []) h n)) fun kk44 =>
 gdB v40 false ((evBin2 tbx .eql 5 v41 (.i .u8 93) fun v => kk44 v h n)) (kk44 (.tp []) h n)) fun kk42 =>
 gdB v40 false (kk42 v29 h n) (kk42 (.tp []) h n)) fun kk39 =>
 gdB v35 false ((evBin2 tbx .eql 5 v36 (.i .u8 91) fun v => kk39 v h n)) (kk39 (.tp []) h n)) fun kk37 =>
 gdB v35 false (kk37 v29 h n) (kk37 (.tp []) h n)) fun kk34 =>
 gdB v30 false ((evBin2 tbx .gtr 5 v31 (.i .u8 126) fun v => kk34 v h n)) (kk34 (.tp []) h n)) fun kk32 =>
 gdB v30 false (kk32 v29 h n) (kk32 (.tp []) h n)) (
 kk2 (v16, ()) h n)) fu (a0, (.i .i64 0), ()) h n
noncomputable def e159 : FE := ⟨Tryz.f159, bd Tryz.f159, [0], [2], (.q .z (.q (.q .z (.b [0] (.l [0, 3] (.q (.q .z (.c .z .z)) (.q (.b [0, 3] (.q .z (.q .z (.c (.q .z .z) .z)))) .z))))) (.q .z .z)))⟩
theorem q159 (fu : Nat) (cf : CF) (a0 : V) (h : H) (n : Id) (k : KV) : evF fu cf e159 [a0] h n k = s159 fu cf a0 h n k := by kernel_rfl
theorem p159 : PfOk Tryz.prog tbx mtab 159 (w1 (s159 fuX)) := pfo e159 Tryz.func159 (by kernel_rfl) (w1_ok (q159 fuX))
noncomputable def s160 (fu : Nat) (cf : CF) (a0 : V) (h : H) (n : Id) (k : KV) : R :=
 jp (fun (s1 : VT []) h n =>
 k (.b false) h n) fun kk2 =>
 lpC [0, 3] (fun lo4 s3 h n =>
 pc s3 fun v5 s6 =>
 pc s6 fun v7 s8 =>
 evLen tbx 9 v5 fun v9 =>
 evBin2 tbx .lss 3 v7 v9 fun v10 =>
 brB v10 (
 jp (fun (s11 : VT [0, 3]) h n =>
 pc s11 fun v13 s14 =>
 pc s14 fun v15 s16 =>
 evBin2 tbx .add 3 v15 (.i .i64 1) fun v17 =>
 lo4 (v13, v17, ()) h n) fun kk12 =>
 evIx tbx 9 v5 v7 fun v18 =>
 evBin2 tbx .eql 5 v18 (.i .u8 58) fun v19 =>
 brB v19 (
 k (.b true) h n) (
 kk12 (v5, v7, ()) h n)) (
 kk2 (()) h n)) fu (a0, (.i .i64 0), ()) h n
noncomputable def e160 : FE := ⟨Tryz.f160, bd Tryz.f160, [0], [2], (.q .z (.q (.q .z (.b [] (.l [0, 3] (.q (.q .z (.c .z .z)) (.q (.b [0, 3] (.q .z (.c (.q .z .z) .z))) .z))))) (.q .z .z)))⟩
theorem q160 (fu : Nat) (cf : CF) (a0 : V) (h : H) (n : Id) (k : KV) : evF fu cf e160 [a0] h n k = s160 fu cf a0 h n k := by kernel_rfl
theorem p160 : PfOk Tryz.prog tbx mtab 160 (w1 (s160 fuX)) := pfo e160 Tryz.func160 (by kernel_rfl) (w1_ok (q160 fuX))
end Go.Proofs.Nw.X
end
