/- Calls of the law VarsMany, run apart. Conditions: none. -/
import Derived.Test.YtjplhnnijolpnaaGreatDoorMVarsManyD
import Derived.Test.YtjplhnnijolpnaaGreatDoorTV
set_option maxRecDepth 100000
namespace Go.Bvm.YtjplhnnijolpnaaGreatDoorMVarsMany
open Go.Bvm.YtjplhnnijolpnaaGreatDoorTV
theorem r372 : run tbl 80 19 l372 ⟨69006, putM P372 t6⟩ (memoK 69257 v372 Q372) = true := by decide +kernel
theorem w372 : wfM 69006 69257 P372 Q372 = true := by decide +kernel
theorem r373 : run tbl 80 20 l373 ⟨69257, putM P373 t6⟩ (memoK 69294 v373 Q373) = true := by decide +kernel
theorem w373 : wfM 69257 69294 P373 Q373 = true := by decide +kernel
theorem r374 : run tbl 80 19 l374 ⟨69294, putM P374 t6⟩ (memoK 69545 v374 Q374) = true := by decide +kernel
theorem w374 : wfM 69294 69545 P374 Q374 = true := by decide +kernel
theorem r375 : run tbl 80 20 l375 ⟨69545, putM P375 t6⟩ (memoK 69582 v375 Q375) = true := by decide +kernel
theorem w375 : wfM 69545 69582 P375 Q375 = true := by decide +kernel
theorem r376 : run tbl 80 19 l376 ⟨69582, putM P376 t6⟩ (memoK 69837 v376 Q376) = true := by decide +kernel
theorem w376 : wfM 69582 69837 P376 Q376 = true := by decide +kernel
theorem r377 : run tbl 80 20 l377 ⟨69837, putM P377 t6⟩ (memoK 69874 v377 Q377) = true := by decide +kernel
theorem w377 : wfM 69837 69874 P377 Q377 = true := by decide +kernel
theorem r378 : run tbl 80 19 l378 ⟨69874, putM P378 t6⟩ (memoK 70125 v378 Q378) = true := by decide +kernel
theorem w378 : wfM 69874 70125 P378 Q378 = true := by decide +kernel
theorem r379 : run tbl 80 20 l379 ⟨70125, putM P379 t6⟩ (memoK 70162 v379 Q379) = true := by decide +kernel
theorem w379 : wfM 70125 70162 P379 Q379 = true := by decide +kernel
theorem r380 : run tbl 80 19 l380 ⟨70162, putM P380 t6⟩ (memoK 70413 v380 Q380) = true := by decide +kernel
theorem w380 : wfM 70162 70413 P380 Q380 = true := by decide +kernel
theorem r381 : run tbl 80 20 l381 ⟨70413, putM P381 t6⟩ (memoK 70450 v381 Q381) = true := by decide +kernel
theorem w381 : wfM 70413 70450 P381 Q381 = true := by decide +kernel
theorem r382 : run tbl 80 19 l382 ⟨70450, putM P382 t6⟩ (memoK 70705 v382 Q382) = true := by decide +kernel
theorem w382 : wfM 70450 70705 P382 Q382 = true := by decide +kernel
theorem r383 : run tbl 80 20 l383 ⟨70705, putM P383 t6⟩ (memoK 70742 v383 Q383) = true := by decide +kernel
theorem w383 : wfM 70705 70742 P383 Q383 = true := by decide +kernel
theorem r384 : run tbl 80 19 l384 ⟨70742, putM P384 t6⟩ (memoK 70993 v384 Q384) = true := by decide +kernel
theorem w384 : wfM 70742 70993 P384 Q384 = true := by decide +kernel
theorem r385 : run tbl 80 20 l385 ⟨70993, putM P385 t6⟩ (memoK 71030 v385 Q385) = true := by decide +kernel
theorem w385 : wfM 70993 71030 P385 Q385 = true := by decide +kernel
theorem r386 : run tbl 80 19 l386 ⟨71030, putM P386 t6⟩ (memoK 71281 v386 Q386) = true := by decide +kernel
theorem w386 : wfM 71030 71281 P386 Q386 = true := by decide +kernel
theorem r387 : run tbl 80 20 l387 ⟨71281, putM P387 t6⟩ (memoK 71318 v387 Q387) = true := by decide +kernel
theorem w387 : wfM 71281 71318 P387 Q387 = true := by decide +kernel
theorem r388 : run tbl 80 19 l388 ⟨71318, putM P388 t6⟩ (memoK 71573 v388 Q388) = true := by decide +kernel
theorem w388 : wfM 71318 71573 P388 Q388 = true := by decide +kernel
theorem r389 : run tbl 80 20 l389 ⟨71573, putM P389 t6⟩ (memoK 71610 v389 Q389) = true := by decide +kernel
theorem w389 : wfM 71573 71610 P389 Q389 = true := by decide +kernel
theorem r390 : run tbl 80 19 l390 ⟨71610, putM P390 t6⟩ (memoK 71861 v390 Q390) = true := by decide +kernel
theorem w390 : wfM 71610 71861 P390 Q390 = true := by decide +kernel
theorem r391 : run tbl 80 20 l391 ⟨71861, putM P391 t6⟩ (memoK 71898 v391 Q391) = true := by decide +kernel
theorem w391 : wfM 71861 71898 P391 Q391 = true := by decide +kernel
theorem r392 : run tbl 80 19 l392 ⟨72018, putM P392 t6⟩ (memoK 72272 v392 Q392) = true := by decide +kernel
theorem w392 : wfM 72018 72272 P392 Q392 = true := by decide +kernel
theorem r393 : run tbl 80 20 l393 ⟨72272, putM P393 t6⟩ (memoK 72310 v393 Q393) = true := by decide +kernel
theorem w393 : wfM 72272 72310 P393 Q393 = true := by decide +kernel
theorem r394 : run tbl 80 19 l394 ⟨72310, putM P394 t6⟩ (memoK 72568 v394 Q394) = true := by decide +kernel
theorem w394 : wfM 72310 72568 P394 Q394 = true := by decide +kernel
theorem r395 : run tbl 80 20 l395 ⟨72568, putM P395 t6⟩ (memoK 72606 v395 Q395) = true := by decide +kernel
theorem w395 : wfM 72568 72606 P395 Q395 = true := by decide +kernel
theorem r396 : run tbl 80 19 l396 ⟨72606, putM P396 t6⟩ (memoK 72868 v396 Q396) = true := by decide +kernel
theorem w396 : wfM 72606 72868 P396 Q396 = true := by decide +kernel
theorem r397 : run tbl 80 20 l397 ⟨72868, putM P397 t6⟩ (memoK 72906 v397 Q397) = true := by decide +kernel
theorem w397 : wfM 72868 72906 P397 Q397 = true := by decide +kernel
theorem r398 : run tbl 80 19 l398 ⟨72906, putM P398 t6⟩ (memoK 73164 v398 Q398) = true := by decide +kernel
theorem w398 : wfM 72906 73164 P398 Q398 = true := by decide +kernel
theorem r399 : run tbl 80 20 l399 ⟨73164, putM P399 t6⟩ (memoK 73202 v399 Q399) = true := by decide +kernel
theorem w399 : wfM 73164 73202 P399 Q399 = true := by decide +kernel
theorem r400 : run tbl 80 19 l400 ⟨73202, putM P400 t6⟩ (memoK 73460 v400 Q400) = true := by decide +kernel
theorem w400 : wfM 73202 73460 P400 Q400 = true := by decide +kernel
theorem r401 : run tbl 80 20 l401 ⟨73460, putM P401 t6⟩ (memoK 73498 v401 Q401) = true := by decide +kernel
theorem w401 : wfM 73460 73498 P401 Q401 = true := by decide +kernel
theorem r402 : run tbl 80 19 l402 ⟨73498, putM P402 t6⟩ (memoK 73760 v402 Q402) = true := by decide +kernel
theorem w402 : wfM 73498 73760 P402 Q402 = true := by decide +kernel
theorem r403 : run tbl 80 20 l403 ⟨73760, putM P403 t6⟩ (memoK 73798 v403 Q403) = true := by decide +kernel
theorem w403 : wfM 73760 73798 P403 Q403 = true := by decide +kernel
theorem r404 : run tbl 80 19 l404 ⟨73798, putM P404 t6⟩ (memoK 74056 v404 Q404) = true := by decide +kernel
theorem w404 : wfM 73798 74056 P404 Q404 = true := by decide +kernel
theorem r405 : run tbl 80 20 l405 ⟨74056, putM P405 t6⟩ (memoK 74094 v405 Q405) = true := by decide +kernel
theorem w405 : wfM 74056 74094 P405 Q405 = true := by decide +kernel
theorem r406 : run tbl 80 19 l406 ⟨74094, putM P406 t6⟩ (memoK 74352 v406 Q406) = true := by decide +kernel
theorem w406 : wfM 74094 74352 P406 Q406 = true := by decide +kernel
theorem r407 : run tbl 80 20 l407 ⟨74352, putM P407 t6⟩ (memoK 74390 v407 Q407) = true := by decide +kernel
theorem w407 : wfM 74352 74390 P407 Q407 = true := by decide +kernel
theorem r408 : run tbl 80 19 l408 ⟨74390, putM P408 t6⟩ (memoK 74652 v408 Q408) = true := by decide +kernel
theorem w408 : wfM 74390 74652 P408 Q408 = true := by decide +kernel
theorem r409 : run tbl 80 20 l409 ⟨74652, putM P409 t6⟩ (memoK 74690 v409 Q409) = true := by decide +kernel
theorem w409 : wfM 74652 74690 P409 Q409 = true := by decide +kernel
end Go.Bvm.YtjplhnnijolpnaaGreatDoorMVarsMany
