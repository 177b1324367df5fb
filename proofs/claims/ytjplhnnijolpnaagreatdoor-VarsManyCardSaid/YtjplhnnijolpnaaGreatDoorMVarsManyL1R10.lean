/- Calls of the law VarsMany, run apart. Conditions: none. -/
import Derived.Test.YtjplhnnijolpnaaGreatDoorMVarsManyD
import Derived.Test.YtjplhnnijolpnaaGreatDoorTV
set_option maxRecDepth 100000
namespace Go.Bvm.YtjplhnnijolpnaaGreatDoorMVarsMany
open Go.Bvm.YtjplhnnijolpnaaGreatDoorTV
theorem r345 : run tbl 80 19 l345 ⟨63114, putM P345 t6⟩ (memoK 63347 v345 Q345) = true := by decide +kernel
theorem w345 : wfM 63114 63347 P345 Q345 = true := by decide +kernel
theorem r346 : run tbl 80 19 l346 ⟨63382, putM P346 t6⟩ (memoK 63619 v346 Q346) = true := by decide +kernel
theorem w346 : wfM 63382 63619 P346 Q346 = true := by decide +kernel
theorem r347 : run tbl 80 19 l347 ⟨63654, putM P347 t6⟩ (memoK 63887 v347 Q347) = true := by decide +kernel
theorem w347 : wfM 63654 63887 P347 Q347 = true := by decide +kernel
theorem r348 : run tbl 80 19 l348 ⟨63922, putM P348 t6⟩ (memoK 64155 v348 Q348) = true := by decide +kernel
theorem w348 : wfM 63922 64155 P348 Q348 = true := by decide +kernel
theorem r349 : run tbl 80 19 l349 ⟨64190, putM P349 t6⟩ (memoK 64427 v349 Q349) = true := by decide +kernel
theorem w349 : wfM 64190 64427 P349 Q349 = true := by decide +kernel
theorem r350 : run tbl 80 19 l350 ⟨64462, putM P350 t6⟩ (memoK 64695 v350 Q350) = true := by decide +kernel
theorem w350 : wfM 64462 64695 P350 Q350 = true := by decide +kernel
theorem r351 : run tbl 80 19 l351 ⟨64730, putM P351 t6⟩ (memoK 64963 v351 Q351) = true := by decide +kernel
theorem w351 : wfM 64730 64963 P351 Q351 = true := by decide +kernel
theorem r352 : run tbl 80 19 l352 ⟨64998, putM P352 t6⟩ (memoK 65235 v352 Q352) = true := by decide +kernel
theorem w352 : wfM 64998 65235 P352 Q352 = true := by decide +kernel
theorem r353 : run tbl 80 19 l353 ⟨65270, putM P353 t6⟩ (memoK 65503 v353 Q353) = true := by decide +kernel
theorem w353 : wfM 65270 65503 P353 Q353 = true := by decide +kernel
theorem r354 : run tbl 80 19 l354 ⟨65538, putM P354 t6⟩ (memoK 65771 v354 Q354) = true := by decide +kernel
theorem w354 : wfM 65538 65771 P354 Q354 = true := by decide +kernel
theorem r355 : run tbl 80 19 l355 ⟨65806, putM P355 t6⟩ (memoK 66043 v355 Q355) = true := by decide +kernel
theorem w355 : wfM 65806 66043 P355 Q355 = true := by decide +kernel
theorem r356 : run tbl 80 19 l356 ⟨66078, putM P356 t6⟩ (memoK 66311 v356 Q356) = true := by decide +kernel
theorem w356 : wfM 66078 66311 P356 Q356 = true := by decide +kernel
theorem r357 : run tbl 80 19 l357 ⟨66346, putM P357 t6⟩ (memoK 66579 v357 Q357) = true := by decide +kernel
theorem w357 : wfM 66346 66579 P357 Q357 = true := by decide +kernel
theorem r358 : run tbl 80 19 l358 ⟨66614, putM P358 t6⟩ (memoK 66851 v358 Q358) = true := by decide +kernel
theorem w358 : wfM 66614 66851 P358 Q358 = true := by decide +kernel
theorem r359 : run tbl 80 19 l359 ⟨66886, putM P359 t6⟩ (memoK 67119 v359 Q359) = true := by decide +kernel
theorem w359 : wfM 66886 67119 P359 Q359 = true := by decide +kernel
theorem r360 : run tbl 80 19 l360 ⟨67274, putM P360 t6⟩ (memoK 67521 v360 Q360) = true := by decide +kernel
theorem w360 : wfM 67274 67521 P360 Q360 = true := by decide +kernel
theorem r361 : run tbl 80 20 l361 ⟨67521, putM P361 t6⟩ (memoK 67558 v361 Q361) = true := by decide +kernel
theorem w361 : wfM 67521 67558 P361 Q361 = true := by decide +kernel
theorem r362 : run tbl 80 19 l362 ⟨67558, putM P362 t6⟩ (memoK 67809 v362 Q362) = true := by decide +kernel
theorem w362 : wfM 67558 67809 P362 Q362 = true := by decide +kernel
theorem r363 : run tbl 80 20 l363 ⟨67809, putM P363 t6⟩ (memoK 67846 v363 Q363) = true := by decide +kernel
theorem w363 : wfM 67809 67846 P363 Q363 = true := by decide +kernel
theorem r364 : run tbl 80 19 l364 ⟨67846, putM P364 t6⟩ (memoK 68101 v364 Q364) = true := by decide +kernel
theorem w364 : wfM 67846 68101 P364 Q364 = true := by decide +kernel
theorem r365 : run tbl 80 20 l365 ⟨68101, putM P365 t6⟩ (memoK 68138 v365 Q365) = true := by decide +kernel
theorem w365 : wfM 68101 68138 P365 Q365 = true := by decide +kernel
theorem r366 : run tbl 80 19 l366 ⟨68138, putM P366 t6⟩ (memoK 68389 v366 Q366) = true := by decide +kernel
theorem w366 : wfM 68138 68389 P366 Q366 = true := by decide +kernel
theorem r367 : run tbl 80 20 l367 ⟨68389, putM P367 t6⟩ (memoK 68426 v367 Q367) = true := by decide +kernel
theorem w367 : wfM 68389 68426 P367 Q367 = true := by decide +kernel
theorem r368 : run tbl 80 19 l368 ⟨68426, putM P368 t6⟩ (memoK 68677 v368 Q368) = true := by decide +kernel
theorem w368 : wfM 68426 68677 P368 Q368 = true := by decide +kernel
theorem r369 : run tbl 80 20 l369 ⟨68677, putM P369 t6⟩ (memoK 68714 v369 Q369) = true := by decide +kernel
theorem w369 : wfM 68677 68714 P369 Q369 = true := by decide +kernel
theorem r370 : run tbl 80 19 l370 ⟨68714, putM P370 t6⟩ (memoK 68969 v370 Q370) = true := by decide +kernel
theorem w370 : wfM 68714 68969 P370 Q370 = true := by decide +kernel
theorem r371 : run tbl 80 20 l371 ⟨68969, putM P371 t6⟩ (memoK 69006 v371 Q371) = true := by decide +kernel
theorem w371 : wfM 68969 69006 P371 Q371 = true := by decide +kernel
end Go.Bvm.YtjplhnnijolpnaaGreatDoorMVarsMany
