/- Calls of the law VarsMany, run apart. Conditions: none. -/
import Derived.Test.YtjplhnnijolpnaaGreatDoorMVarsManyD
import Derived.Test.YtjplhnnijolpnaaGreatDoorTV
set_option maxRecDepth 100000
namespace Go.Bvm.YtjplhnnijolpnaaGreatDoorMVarsMany
open Go.Bvm.YtjplhnnijolpnaaGreatDoorTV
theorem r274 : run tbl 80 19 l274 ⟨44846, putM P274 t6⟩ (memoK 45048 v274 Q274) = true := by decide +kernel
theorem w274 : wfM 44846 45048 P274 Q274 = true := by decide +kernel
theorem r275 : run tbl 80 19 l275 ⟨45077, putM P275 t6⟩ (memoK 45283 v275 Q275) = true := by decide +kernel
theorem w275 : wfM 45077 45283 P275 Q275 = true := by decide +kernel
theorem r276 : run tbl 80 19 l276 ⟨45312, putM P276 t6⟩ (memoK 45514 v276 Q276) = true := by decide +kernel
theorem w276 : wfM 45312 45514 P276 Q276 = true := by decide +kernel
theorem r277 : run tbl 80 19 l277 ⟨45543, putM P277 t6⟩ (memoK 45745 v277 Q277) = true := by decide +kernel
theorem w277 : wfM 45543 45745 P277 Q277 = true := by decide +kernel
theorem r278 : run tbl 80 19 l278 ⟨45774, putM P278 t6⟩ (memoK 45980 v278 Q278) = true := by decide +kernel
theorem w278 : wfM 45774 45980 P278 Q278 = true := by decide +kernel
theorem r279 : run tbl 80 19 l279 ⟨46009, putM P279 t6⟩ (memoK 46211 v279 Q279) = true := by decide +kernel
theorem w279 : wfM 46009 46211 P279 Q279 = true := by decide +kernel
theorem r280 : run tbl 80 19 l280 ⟨46340, putM P280 t6⟩ (memoK 46543 v280 Q280) = true := by decide +kernel
theorem w280 : wfM 46340 46543 P280 Q280 = true := by decide +kernel
theorem r281 : run tbl 80 19 l281 ⟨46573, putM P281 t6⟩ (memoK 46780 v281 Q281) = true := by decide +kernel
theorem w281 : wfM 46573 46780 P281 Q281 = true := by decide +kernel
theorem r282 : run tbl 80 19 l282 ⟨46810, putM P282 t6⟩ (memoK 47021 v282 Q282) = true := by decide +kernel
theorem w282 : wfM 46810 47021 P282 Q282 = true := by decide +kernel
theorem r283 : run tbl 80 19 l283 ⟨47051, putM P283 t6⟩ (memoK 47258 v283 Q283) = true := by decide +kernel
theorem w283 : wfM 47051 47258 P283 Q283 = true := by decide +kernel
theorem r284 : run tbl 80 19 l284 ⟨47288, putM P284 t6⟩ (memoK 47495 v284 Q284) = true := by decide +kernel
theorem w284 : wfM 47288 47495 P284 Q284 = true := by decide +kernel
theorem r285 : run tbl 80 19 l285 ⟨47525, putM P285 t6⟩ (memoK 47736 v285 Q285) = true := by decide +kernel
theorem w285 : wfM 47525 47736 P285 Q285 = true := by decide +kernel
theorem r286 : run tbl 80 19 l286 ⟨47766, putM P286 t6⟩ (memoK 47973 v286 Q286) = true := by decide +kernel
theorem w286 : wfM 47766 47973 P286 Q286 = true := by decide +kernel
theorem r287 : run tbl 80 19 l287 ⟨48003, putM P287 t6⟩ (memoK 48210 v287 Q287) = true := by decide +kernel
theorem w287 : wfM 48003 48210 P287 Q287 = true := by decide +kernel
theorem r288 : run tbl 80 19 l288 ⟨48240, putM P288 t6⟩ (memoK 48451 v288 Q288) = true := by decide +kernel
theorem w288 : wfM 48240 48451 P288 Q288 = true := by decide +kernel
theorem r289 : run tbl 80 19 l289 ⟨48481, putM P289 t6⟩ (memoK 48688 v289 Q289) = true := by decide +kernel
theorem w289 : wfM 48481 48688 P289 Q289 = true := by decide +kernel
theorem r290 : run tbl 80 19 l290 ⟨48718, putM P290 t6⟩ (memoK 48925 v290 Q290) = true := by decide +kernel
theorem w290 : wfM 48718 48925 P290 Q290 = true := by decide +kernel
theorem r291 : run tbl 80 19 l291 ⟨48955, putM P291 t6⟩ (memoK 49166 v291 Q291) = true := by decide +kernel
theorem w291 : wfM 48955 49166 P291 Q291 = true := by decide +kernel
theorem r292 : run tbl 80 19 l292 ⟨49196, putM P292 t6⟩ (memoK 49403 v292 Q292) = true := by decide +kernel
theorem w292 : wfM 49196 49403 P292 Q292 = true := by decide +kernel
theorem r293 : run tbl 80 19 l293 ⟨49433, putM P293 t6⟩ (memoK 49640 v293 Q293) = true := by decide +kernel
theorem w293 : wfM 49433 49640 P293 Q293 = true := by decide +kernel
theorem r294 : run tbl 80 19 l294 ⟨49670, putM P294 t6⟩ (memoK 49881 v294 Q294) = true := by decide +kernel
theorem w294 : wfM 49670 49881 P294 Q294 = true := by decide +kernel
theorem r295 : run tbl 80 19 l295 ⟨49911, putM P295 t6⟩ (memoK 50118 v295 Q295) = true := by decide +kernel
theorem w295 : wfM 49911 50118 P295 Q295 = true := by decide +kernel
theorem r296 : run tbl 80 19 l296 ⟨50248, putM P296 t6⟩ (memoK 50452 v296 Q296) = true := by decide +kernel
theorem w296 : wfM 50248 50452 P296 Q296 = true := by decide +kernel
theorem r297 : run tbl 80 19 l297 ⟨50483, putM P297 t6⟩ (memoK 50691 v297 Q297) = true := by decide +kernel
theorem w297 : wfM 50483 50691 P297 Q297 = true := by decide +kernel
theorem r298 : run tbl 80 19 l298 ⟨50722, putM P298 t6⟩ (memoK 50934 v298 Q298) = true := by decide +kernel
theorem w298 : wfM 50722 50934 P298 Q298 = true := by decide +kernel
end Go.Bvm.YtjplhnnijolpnaaGreatDoorMVarsMany
