/- Calls of the law VarsMany, run apart. Conditions: none. -/
import Derived.Test.YtjplhnnijolpnaaGreatDoorMVarsManyD
import Derived.Test.YtjplhnnijolpnaaGreatDoorTV
set_option maxRecDepth 100000
namespace Go.Bvm.YtjplhnnijolpnaaGreatDoorMVarsMany
open Go.Bvm.YtjplhnnijolpnaaGreatDoorTV
theorem r240 : run tbl 80 19 l240 ⟨38549, putM P240 t6⟩ (memoK 38753 v240 Q240) = true := by decide +kernel
theorem w240 : wfM 38549 38753 P240 Q240 = true := by decide +kernel
theorem r241 : run tbl 80 19 l241 ⟨38786, putM P241 t6⟩ (memoK 39002 v241 Q241) = true := by decide +kernel
theorem w241 : wfM 38786 39002 P241 Q241 = true := by decide +kernel
theorem r242 : run tbl 80 19 l242 ⟨39038, putM P242 t6⟩ (memoK 39266 v242 Q242) = true := by decide +kernel
theorem w242 : wfM 39038 39266 P242 Q242 = true := by decide +kernel
theorem r243 : run tbl 80 20 l243 ⟨39266, putM P243 t6⟩ (memoK 39306 v243 Q243) = true := by decide +kernel
theorem w243 : wfM 39266 39306 P243 Q243 = true := by decide +kernel
theorem r244 : run tbl 80 19 l244 ⟨39306, putM P244 t6⟩ (memoK 39523 v244 Q244) = true := by decide +kernel
theorem w244 : wfM 39306 39523 P244 Q244 = true := by decide +kernel
theorem r245 : run tbl 80 20 l245 ⟨39523, putM P245 t6⟩ (memoK 39560 v245 Q245) = true := by decide +kernel
theorem w245 : wfM 39523 39560 P245 Q245 = true := by decide +kernel
theorem r246 : run tbl 80 19 l246 ⟨39560, putM P246 t6⟩ (memoK 39750 v246 Q246) = true := by decide +kernel
theorem w246 : wfM 39560 39750 P246 Q246 = true := by decide +kernel
theorem r247 : run tbl 80 19 l247 ⟨39779, putM P247 t6⟩ (memoK 39973 v247 Q247) = true := by decide +kernel
theorem w247 : wfM 39779 39973 P247 Q247 = true := by decide +kernel
theorem r248 : run tbl 80 19 l248 ⟨40002, putM P248 t6⟩ (memoK 40219 v248 Q248) = true := by decide +kernel
theorem w248 : wfM 40002 40219 P248 Q248 = true := by decide +kernel
theorem r249 : run tbl 80 20 l249 ⟨40219, putM P249 t6⟩ (memoK 40256 v249 Q249) = true := by decide +kernel
theorem w249 : wfM 40219 40256 P249 Q249 = true := by decide +kernel
theorem r250 : run tbl 80 19 l250 ⟨40256, putM P250 t6⟩ (memoK 40446 v250 Q250) = true := by decide +kernel
theorem w250 : wfM 40256 40446 P250 Q250 = true := by decide +kernel
theorem r251 : run tbl 80 19 l251 ⟨40475, putM P251 t6⟩ (memoK 40669 v251 Q251) = true := by decide +kernel
theorem w251 : wfM 40475 40669 P251 Q251 = true := by decide +kernel
theorem r252 : run tbl 80 19 l252 ⟨40698, putM P252 t6⟩ (memoK 40915 v252 Q252) = true := by decide +kernel
theorem w252 : wfM 40698 40915 P252 Q252 = true := by decide +kernel
theorem r253 : run tbl 80 20 l253 ⟨40915, putM P253 t6⟩ (memoK 40952 v253 Q253) = true := by decide +kernel
theorem w253 : wfM 40915 40952 P253 Q253 = true := by decide +kernel
theorem r254 : run tbl 80 19 l254 ⟨40952, putM P254 t6⟩ (memoK 41169 v254 Q254) = true := by decide +kernel
theorem w254 : wfM 40952 41169 P254 Q254 = true := by decide +kernel
theorem r255 : run tbl 80 20 l255 ⟨41169, putM P255 t6⟩ (memoK 41206 v255 Q255) = true := by decide +kernel
theorem w255 : wfM 41169 41206 P255 Q255 = true := by decide +kernel
theorem r256 : run tbl 80 19 l256 ⟨41206, putM P256 t6⟩ (memoK 41436 v256 Q256) = true := by decide +kernel
theorem w256 : wfM 41206 41436 P256 Q256 = true := by decide +kernel
theorem r257 : run tbl 80 20 l257 ⟨41436, putM P257 t6⟩ (memoK 41478 v257 Q257) = true := by decide +kernel
theorem w257 : wfM 41436 41478 P257 Q257 = true := by decide +kernel
theorem r258 : run tbl 80 19 l258 ⟨41478, putM P258 t6⟩ (memoK 41695 v258 Q258) = true := by decide +kernel
theorem w258 : wfM 41478 41695 P258 Q258 = true := by decide +kernel
theorem r259 : run tbl 80 20 l259 ⟨41695, putM P259 t6⟩ (memoK 41732 v259 Q259) = true := by decide +kernel
theorem w259 : wfM 41695 41732 P259 Q259 = true := by decide +kernel
theorem r260 : run tbl 80 19 l260 ⟨41732, putM P260 t6⟩ (memoK 41922 v260 Q260) = true := by decide +kernel
theorem w260 : wfM 41732 41922 P260 Q260 = true := by decide +kernel
theorem r261 : run tbl 80 19 l261 ⟨41951, putM P261 t6⟩ (memoK 42145 v261 Q261) = true := by decide +kernel
theorem w261 : wfM 41951 42145 P261 Q261 = true := by decide +kernel
theorem r262 : run tbl 80 19 l262 ⟨42174, putM P262 t6⟩ (memoK 42391 v262 Q262) = true := by decide +kernel
theorem w262 : wfM 42174 42391 P262 Q262 = true := by decide +kernel
theorem r263 : run tbl 80 20 l263 ⟨42391, putM P263 t6⟩ (memoK 42428 v263 Q263) = true := by decide +kernel
theorem w263 : wfM 42391 42428 P263 Q263 = true := by decide +kernel
theorem r264 : run tbl 80 19 l264 ⟨42528, putM P264 t6⟩ (memoK 42726 v264 Q264) = true := by decide +kernel
theorem w264 : wfM 42528 42726 P264 Q264 = true := by decide +kernel
theorem r265 : run tbl 80 19 l265 ⟨42755, putM P265 t6⟩ (memoK 42957 v265 Q265) = true := by decide +kernel
theorem w265 : wfM 42755 42957 P265 Q265 = true := by decide +kernel
theorem r266 : run tbl 80 19 l266 ⟨42986, putM P266 t6⟩ (memoK 43192 v266 Q266) = true := by decide +kernel
theorem w266 : wfM 42986 43192 P266 Q266 = true := by decide +kernel
theorem r267 : run tbl 80 19 l267 ⟨43221, putM P267 t6⟩ (memoK 43423 v267 Q267) = true := by decide +kernel
theorem w267 : wfM 43221 43423 P267 Q267 = true := by decide +kernel
theorem r268 : run tbl 80 19 l268 ⟨43452, putM P268 t6⟩ (memoK 43654 v268 Q268) = true := by decide +kernel
theorem w268 : wfM 43452 43654 P268 Q268 = true := by decide +kernel
theorem r269 : run tbl 80 19 l269 ⟨43683, putM P269 t6⟩ (memoK 43889 v269 Q269) = true := by decide +kernel
theorem w269 : wfM 43683 43889 P269 Q269 = true := by decide +kernel
theorem r270 : run tbl 80 19 l270 ⟨43918, putM P270 t6⟩ (memoK 44120 v270 Q270) = true := by decide +kernel
theorem w270 : wfM 43918 44120 P270 Q270 = true := by decide +kernel
theorem r271 : run tbl 80 19 l271 ⟨44149, putM P271 t6⟩ (memoK 44351 v271 Q271) = true := by decide +kernel
theorem w271 : wfM 44149 44351 P271 Q271 = true := by decide +kernel
theorem r272 : run tbl 80 19 l272 ⟨44380, putM P272 t6⟩ (memoK 44586 v272 Q272) = true := by decide +kernel
theorem w272 : wfM 44380 44586 P272 Q272 = true := by decide +kernel
theorem r273 : run tbl 80 19 l273 ⟨44615, putM P273 t6⟩ (memoK 44817 v273 Q273) = true := by decide +kernel
theorem w273 : wfM 44615 44817 P273 Q273 = true := by decide +kernel
end Go.Bvm.YtjplhnnijolpnaaGreatDoorMVarsMany
