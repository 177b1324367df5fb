/- Calls of the law VarsMany, run apart. Conditions: none. -/
import Derived.Test.YtjplhnnijolpnaaGreatDoorMVarsManyD
import Derived.Test.YtjplhnnijolpnaaGreatDoorTV
set_option maxRecDepth 100000
namespace Go.Bvm.YtjplhnnijolpnaaGreatDoorMVarsMany
open Go.Bvm.YtjplhnnijolpnaaGreatDoorTV
theorem r299 : run tbl 80 19 l299 ⟨50965, putM P299 t6⟩ (memoK 51173 v299 Q299) = true := by decide +kernel
theorem w299 : wfM 50965 51173 P299 Q299 = true := by decide +kernel
theorem r300 : run tbl 80 19 l300 ⟨51204, putM P300 t6⟩ (memoK 51412 v300 Q300) = true := by decide +kernel
theorem w300 : wfM 51204 51412 P300 Q300 = true := by decide +kernel
theorem r301 : run tbl 80 19 l301 ⟨51443, putM P301 t6⟩ (memoK 51655 v301 Q301) = true := by decide +kernel
theorem w301 : wfM 51443 51655 P301 Q301 = true := by decide +kernel
theorem r302 : run tbl 80 19 l302 ⟨51686, putM P302 t6⟩ (memoK 51894 v302 Q302) = true := by decide +kernel
theorem w302 : wfM 51686 51894 P302 Q302 = true := by decide +kernel
theorem r303 : run tbl 80 19 l303 ⟨51925, putM P303 t6⟩ (memoK 52133 v303 Q303) = true := by decide +kernel
theorem w303 : wfM 51925 52133 P303 Q303 = true := by decide +kernel
theorem r304 : run tbl 80 19 l304 ⟨52164, putM P304 t6⟩ (memoK 52376 v304 Q304) = true := by decide +kernel
theorem w304 : wfM 52164 52376 P304 Q304 = true := by decide +kernel
theorem r305 : run tbl 80 19 l305 ⟨52407, putM P305 t6⟩ (memoK 52615 v305 Q305) = true := by decide +kernel
theorem w305 : wfM 52407 52615 P305 Q305 = true := by decide +kernel
theorem r306 : run tbl 80 19 l306 ⟨52646, putM P306 t6⟩ (memoK 52854 v306 Q306) = true := by decide +kernel
theorem w306 : wfM 52646 52854 P306 Q306 = true := by decide +kernel
theorem r307 : run tbl 80 19 l307 ⟨52885, putM P307 t6⟩ (memoK 53097 v307 Q307) = true := by decide +kernel
theorem w307 : wfM 52885 53097 P307 Q307 = true := by decide +kernel
theorem r308 : run tbl 80 19 l308 ⟨53128, putM P308 t6⟩ (memoK 53336 v308 Q308) = true := by decide +kernel
theorem w308 : wfM 53128 53336 P308 Q308 = true := by decide +kernel
theorem r309 : run tbl 80 19 l309 ⟨53367, putM P309 t6⟩ (memoK 53575 v309 Q309) = true := by decide +kernel
theorem w309 : wfM 53367 53575 P309 Q309 = true := by decide +kernel
theorem r310 : run tbl 80 19 l310 ⟨53606, putM P310 t6⟩ (memoK 53818 v310 Q310) = true := by decide +kernel
theorem w310 : wfM 53606 53818 P310 Q310 = true := by decide +kernel
theorem r311 : run tbl 80 19 l311 ⟨53849, putM P311 t6⟩ (memoK 54057 v311 Q311) = true := by decide +kernel
theorem w311 : wfM 53849 54057 P311 Q311 = true := by decide +kernel
theorem r312 : run tbl 80 19 l312 ⟨54198, putM P312 t6⟩ (memoK 54420 v312 Q312) = true := by decide +kernel
theorem w312 : wfM 54198 54420 P312 Q312 = true := by decide +kernel
theorem r313 : run tbl 80 19 l313 ⟨54453, putM P313 t6⟩ (memoK 54679 v313 Q313) = true := by decide +kernel
theorem w313 : wfM 54453 54679 P313 Q313 = true := by decide +kernel
theorem r314 : run tbl 80 19 l314 ⟨54712, putM P314 t6⟩ (memoK 54942 v314 Q314) = true := by decide +kernel
theorem w314 : wfM 54712 54942 P314 Q314 = true := by decide +kernel
theorem r315 : run tbl 80 19 l315 ⟨54975, putM P315 t6⟩ (memoK 55201 v315 Q315) = true := by decide +kernel
theorem w315 : wfM 54975 55201 P315 Q315 = true := by decide +kernel
theorem r316 : run tbl 80 19 l316 ⟨55234, putM P316 t6⟩ (memoK 55460 v316 Q316) = true := by decide +kernel
theorem w316 : wfM 55234 55460 P316 Q316 = true := by decide +kernel
theorem r317 : run tbl 80 19 l317 ⟨55493, putM P317 t6⟩ (memoK 55723 v317 Q317) = true := by decide +kernel
theorem w317 : wfM 55493 55723 P317 Q317 = true := by decide +kernel
theorem r318 : run tbl 80 19 l318 ⟨55756, putM P318 t6⟩ (memoK 55982 v318 Q318) = true := by decide +kernel
theorem w318 : wfM 55756 55982 P318 Q318 = true := by decide +kernel
theorem r319 : run tbl 80 19 l319 ⟨56015, putM P319 t6⟩ (memoK 56241 v319 Q319) = true := by decide +kernel
theorem w319 : wfM 56015 56241 P319 Q319 = true := by decide +kernel
theorem r320 : run tbl 80 19 l320 ⟨56274, putM P320 t6⟩ (memoK 56504 v320 Q320) = true := by decide +kernel
theorem w320 : wfM 56274 56504 P320 Q320 = true := by decide +kernel
theorem r321 : run tbl 80 19 l321 ⟨56537, putM P321 t6⟩ (memoK 56763 v321 Q321) = true := by decide +kernel
theorem w321 : wfM 56537 56763 P321 Q321 = true := by decide +kernel
theorem r322 : run tbl 80 19 l322 ⟨56796, putM P322 t6⟩ (memoK 57022 v322 Q322) = true := by decide +kernel
theorem w322 : wfM 56796 57022 P322 Q322 = true := by decide +kernel
end Go.Bvm.YtjplhnnijolpnaaGreatDoorMVarsMany
