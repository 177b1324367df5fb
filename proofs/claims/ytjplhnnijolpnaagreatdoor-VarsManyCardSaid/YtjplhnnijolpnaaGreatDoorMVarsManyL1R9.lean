/- Calls of the law VarsMany, run apart. Conditions: none. -/
import Derived.Test.YtjplhnnijolpnaaGreatDoorMVarsManyD
import Derived.Test.YtjplhnnijolpnaaGreatDoorTV
set_option maxRecDepth 100000
namespace Go.Bvm.YtjplhnnijolpnaaGreatDoorMVarsMany
open Go.Bvm.YtjplhnnijolpnaaGreatDoorTV
theorem r323 : run tbl 80 19 l323 ⟨57055, putM P323 t6⟩ (memoK 57285 v323 Q323) = true := by decide +kernel
theorem w323 : wfM 57055 57285 P323 Q323 = true := by decide +kernel
theorem r324 : run tbl 80 19 l324 ⟨57318, putM P324 t6⟩ (memoK 57544 v324 Q324) = true := by decide +kernel
theorem w324 : wfM 57318 57544 P324 Q324 = true := by decide +kernel
theorem r325 : run tbl 80 19 l325 ⟨57577, putM P325 t6⟩ (memoK 57803 v325 Q325) = true := by decide +kernel
theorem w325 : wfM 57577 57803 P325 Q325 = true := by decide +kernel
theorem r326 : run tbl 80 19 l326 ⟨57836, putM P326 t6⟩ (memoK 58066 v326 Q326) = true := by decide +kernel
theorem w326 : wfM 57836 58066 P326 Q326 = true := by decide +kernel
theorem r327 : run tbl 80 19 l327 ⟨58099, putM P327 t6⟩ (memoK 58325 v327 Q327) = true := by decide +kernel
theorem w327 : wfM 58099 58325 P327 Q327 = true := by decide +kernel
theorem r328 : run tbl 80 19 l328 ⟨58468, putM P328 t6⟩ (memoK 58696 v328 Q328) = true := by decide +kernel
theorem w328 : wfM 58468 58696 P328 Q328 = true := by decide +kernel
theorem r329 : run tbl 80 19 l329 ⟨58730, putM P329 t6⟩ (memoK 58962 v329 Q329) = true := by decide +kernel
theorem w329 : wfM 58730 58962 P329 Q329 = true := by decide +kernel
theorem r330 : run tbl 80 19 l330 ⟨58996, putM P330 t6⟩ (memoK 59232 v330 Q330) = true := by decide +kernel
theorem w330 : wfM 58996 59232 P330 Q330 = true := by decide +kernel
theorem r331 : run tbl 80 19 l331 ⟨59266, putM P331 t6⟩ (memoK 59498 v331 Q331) = true := by decide +kernel
theorem w331 : wfM 59266 59498 P331 Q331 = true := by decide +kernel
theorem r332 : run tbl 80 19 l332 ⟨59532, putM P332 t6⟩ (memoK 59764 v332 Q332) = true := by decide +kernel
theorem w332 : wfM 59532 59764 P332 Q332 = true := by decide +kernel
theorem r333 : run tbl 80 19 l333 ⟨59798, putM P333 t6⟩ (memoK 60034 v333 Q333) = true := by decide +kernel
theorem w333 : wfM 59798 60034 P333 Q333 = true := by decide +kernel
theorem r334 : run tbl 80 19 l334 ⟨60068, putM P334 t6⟩ (memoK 60300 v334 Q334) = true := by decide +kernel
theorem w334 : wfM 60068 60300 P334 Q334 = true := by decide +kernel
theorem r335 : run tbl 80 19 l335 ⟨60334, putM P335 t6⟩ (memoK 60566 v335 Q335) = true := by decide +kernel
theorem w335 : wfM 60334 60566 P335 Q335 = true := by decide +kernel
theorem r336 : run tbl 80 19 l336 ⟨60600, putM P336 t6⟩ (memoK 60836 v336 Q336) = true := by decide +kernel
theorem w336 : wfM 60600 60836 P336 Q336 = true := by decide +kernel
theorem r337 : run tbl 80 19 l337 ⟨60870, putM P337 t6⟩ (memoK 61102 v337 Q337) = true := by decide +kernel
theorem w337 : wfM 60870 61102 P337 Q337 = true := by decide +kernel
theorem r338 : run tbl 80 19 l338 ⟨61136, putM P338 t6⟩ (memoK 61368 v338 Q338) = true := by decide +kernel
theorem w338 : wfM 61136 61368 P338 Q338 = true := by decide +kernel
theorem r339 : run tbl 80 19 l339 ⟨61402, putM P339 t6⟩ (memoK 61638 v339 Q339) = true := by decide +kernel
theorem w339 : wfM 61402 61638 P339 Q339 = true := by decide +kernel
theorem r340 : run tbl 80 19 l340 ⟨61672, putM P340 t6⟩ (memoK 61904 v340 Q340) = true := by decide +kernel
theorem w340 : wfM 61672 61904 P340 Q340 = true := by decide +kernel
theorem r341 : run tbl 80 19 l341 ⟨61938, putM P341 t6⟩ (memoK 62170 v341 Q341) = true := by decide +kernel
theorem w341 : wfM 61938 62170 P341 Q341 = true := by decide +kernel
theorem r342 : run tbl 80 19 l342 ⟨62204, putM P342 t6⟩ (memoK 62440 v342 Q342) = true := by decide +kernel
theorem w342 : wfM 62204 62440 P342 Q342 = true := by decide +kernel
theorem r343 : run tbl 80 19 l343 ⟨62474, putM P343 t6⟩ (memoK 62706 v343 Q343) = true := by decide +kernel
theorem w343 : wfM 62474 62706 P343 Q343 = true := by decide +kernel
theorem r344 : run tbl 80 19 l344 ⟨62850, putM P344 t6⟩ (memoK 63079 v344 Q344) = true := by decide +kernel
theorem w344 : wfM 62850 63079 P344 Q344 = true := by decide +kernel
end Go.Bvm.YtjplhnnijolpnaaGreatDoorMVarsMany
