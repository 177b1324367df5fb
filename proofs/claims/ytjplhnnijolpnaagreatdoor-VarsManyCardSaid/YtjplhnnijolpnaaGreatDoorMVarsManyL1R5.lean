/- Calls of the law VarsMany, run apart. Conditions: none. -/
import Derived.Test.YtjplhnnijolpnaaGreatDoorMVarsManyD
import Derived.Test.YtjplhnnijolpnaaGreatDoorTV
set_option maxRecDepth 100000
namespace Go.Bvm.YtjplhnnijolpnaaGreatDoorMVarsMany
open Go.Bvm.YtjplhnnijolpnaaGreatDoorTV
theorem r212 : run tbl 80 19 l212 ⟨32545, putM P212 t6⟩ (memoK 32724 v212 Q212) = true := by decide +kernel
theorem w212 : wfM 32545 32724 P212 Q212 = true := by decide +kernel
theorem r213 : run tbl 80 19 l213 ⟨32749, putM P213 t6⟩ (memoK 32932 v213 Q213) = true := by decide +kernel
theorem w213 : wfM 32749 32932 P213 Q213 = true := by decide +kernel
theorem r214 : run tbl 80 19 l214 ⟨32957, putM P214 t6⟩ (memoK 33136 v214 Q214) = true := by decide +kernel
theorem w214 : wfM 32957 33136 P214 Q214 = true := by decide +kernel
theorem r215 : run tbl 80 19 l215 ⟨33161, putM P215 t6⟩ (memoK 33340 v215 Q215) = true := by decide +kernel
theorem w215 : wfM 33161 33340 P215 Q215 = true := by decide +kernel
theorem r216 : run tbl 80 19 l216 ⟨33365, putM P216 t6⟩ (memoK 33548 v216 Q216) = true := by decide +kernel
theorem w216 : wfM 33365 33548 P216 Q216 = true := by decide +kernel
theorem r217 : run tbl 80 19 l217 ⟨33573, putM P217 t6⟩ (memoK 33752 v217 Q217) = true := by decide +kernel
theorem w217 : wfM 33573 33752 P217 Q217 = true := by decide +kernel
theorem r218 : run tbl 80 19 l218 ⟨33777, putM P218 t6⟩ (memoK 33956 v218 Q218) = true := by decide +kernel
theorem w218 : wfM 33777 33956 P218 Q218 = true := by decide +kernel
theorem r219 : run tbl 80 19 l219 ⟨33981, putM P219 t6⟩ (memoK 34164 v219 Q219) = true := by decide +kernel
theorem w219 : wfM 33981 34164 P219 Q219 = true := by decide +kernel
theorem r220 : run tbl 80 19 l220 ⟨34189, putM P220 t6⟩ (memoK 34368 v220 Q220) = true := by decide +kernel
theorem w220 : wfM 34189 34368 P220 Q220 = true := by decide +kernel
theorem r221 : run tbl 80 19 l221 ⟨34393, putM P221 t6⟩ (memoK 34572 v221 Q221) = true := by decide +kernel
theorem w221 : wfM 34393 34572 P221 Q221 = true := by decide +kernel
theorem r222 : run tbl 80 19 l222 ⟨34597, putM P222 t6⟩ (memoK 34780 v222 Q222) = true := by decide +kernel
theorem w222 : wfM 34597 34780 P222 Q222 = true := by decide +kernel
theorem r223 : run tbl 80 19 l223 ⟨34805, putM P223 t6⟩ (memoK 34984 v223 Q223) = true := by decide +kernel
theorem w223 : wfM 34805 34984 P223 Q223 = true := by decide +kernel
theorem r224 : run tbl 80 19 l224 ⟨35099, putM P224 t6⟩ (memoK 35278 v224 Q224) = true := by decide +kernel
theorem w224 : wfM 35099 35278 P224 Q224 = true := by decide +kernel
theorem r225 : run tbl 80 19 l225 ⟨35304, putM P225 t6⟩ (memoK 35487 v225 Q225) = true := by decide +kernel
theorem w225 : wfM 35304 35487 P225 Q225 = true := by decide +kernel
theorem r226 : run tbl 80 19 l226 ⟨35513, putM P226 t6⟩ (memoK 35700 v226 Q226) = true := by decide +kernel
theorem w226 : wfM 35513 35700 P226 Q226 = true := by decide +kernel
theorem r227 : run tbl 80 19 l227 ⟨35726, putM P227 t6⟩ (memoK 35909 v227 Q227) = true := by decide +kernel
theorem w227 : wfM 35726 35909 P227 Q227 = true := by decide +kernel
theorem r228 : run tbl 80 19 l228 ⟨35935, putM P228 t6⟩ (memoK 36118 v228 Q228) = true := by decide +kernel
theorem w228 : wfM 35935 36118 P228 Q228 = true := by decide +kernel
theorem r229 : run tbl 80 19 l229 ⟨36144, putM P229 t6⟩ (memoK 36331 v229 Q229) = true := by decide +kernel
theorem w229 : wfM 36144 36331 P229 Q229 = true := by decide +kernel
theorem r230 : run tbl 80 19 l230 ⟨36357, putM P230 t6⟩ (memoK 36540 v230 Q230) = true := by decide +kernel
theorem w230 : wfM 36357 36540 P230 Q230 = true := by decide +kernel
theorem r231 : run tbl 80 19 l231 ⟨36566, putM P231 t6⟩ (memoK 36749 v231 Q231) = true := by decide +kernel
theorem w231 : wfM 36566 36749 P231 Q231 = true := by decide +kernel
theorem r232 : run tbl 80 19 l232 ⟨36775, putM P232 t6⟩ (memoK 36962 v232 Q232) = true := by decide +kernel
theorem w232 : wfM 36775 36962 P232 Q232 = true := by decide +kernel
theorem r233 : run tbl 80 19 l233 ⟨36988, putM P233 t6⟩ (memoK 37171 v233 Q233) = true := by decide +kernel
theorem w233 : wfM 36988 37171 P233 Q233 = true := by decide +kernel
theorem r234 : run tbl 80 19 l234 ⟨37197, putM P234 t6⟩ (memoK 37380 v234 Q234) = true := by decide +kernel
theorem w234 : wfM 37197 37380 P234 Q234 = true := by decide +kernel
theorem r235 : run tbl 80 19 l235 ⟨37406, putM P235 t6⟩ (memoK 37593 v235 Q235) = true := by decide +kernel
theorem w235 : wfM 37406 37593 P235 Q235 = true := by decide +kernel
theorem r236 : run tbl 80 19 l236 ⟨37619, putM P236 t6⟩ (memoK 37802 v236 Q236) = true := by decide +kernel
theorem w236 : wfM 37619 37802 P236 Q236 = true := by decide +kernel
theorem r237 : run tbl 80 19 l237 ⟨37828, putM P237 t6⟩ (memoK 38011 v237 Q237) = true := by decide +kernel
theorem w237 : wfM 37828 38011 P237 Q237 = true := by decide +kernel
theorem r238 : run tbl 80 19 l238 ⟨38037, putM P238 t6⟩ (memoK 38224 v238 Q238) = true := by decide +kernel
theorem w238 : wfM 38037 38224 P238 Q238 = true := by decide +kernel
theorem r239 : run tbl 80 19 l239 ⟨38250, putM P239 t6⟩ (memoK 38433 v239 Q239) = true := by decide +kernel
theorem w239 : wfM 38250 38433 P239 Q239 = true := by decide +kernel
end Go.Bvm.YtjplhnnijolpnaaGreatDoorMVarsMany
