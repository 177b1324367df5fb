/- Calls of the law VarsMany, run apart. Conditions: none. -/
import Derived.Test.YtjplhnnijolpnaaGreatDoorMVarsManyD
import Derived.Test.YtjplhnnijolpnaaGreatDoorTV
set_option maxRecDepth 100000
namespace Go.Bvm.YtjplhnnijolpnaaGreatDoorMVarsMany
open Go.Bvm.YtjplhnnijolpnaaGreatDoorTV
theorem r410 : run tbl 80 19 l410 ⟨74690, putM P410 t6⟩ (memoK 74948 v410 Q410) = true := by decide +kernel
theorem w410 : wfM 74690 74948 P410 Q410 = true := by decide +kernel
theorem r411 : run tbl 80 20 l411 ⟨74948, putM P411 t6⟩ (memoK 74986 v411 Q411) = true := by decide +kernel
theorem w411 : wfM 74948 74986 P411 Q411 = true := by decide +kernel
theorem r412 : run tbl 80 19 l412 ⟨74986, putM P412 t6⟩ (memoK 75244 v412 Q412) = true := by decide +kernel
theorem w412 : wfM 74986 75244 P412 Q412 = true := by decide +kernel
theorem r413 : run tbl 80 20 l413 ⟨75244, putM P413 t6⟩ (memoK 75282 v413 Q413) = true := by decide +kernel
theorem w413 : wfM 75244 75282 P413 Q413 = true := by decide +kernel
theorem r414 : run tbl 80 19 l414 ⟨75282, putM P414 t6⟩ (memoK 75544 v414 Q414) = true := by decide +kernel
theorem w414 : wfM 75282 75544 P414 Q414 = true := by decide +kernel
theorem r415 : run tbl 80 20 l415 ⟨75544, putM P415 t6⟩ (memoK 75582 v415 Q415) = true := by decide +kernel
theorem w415 : wfM 75544 75582 P415 Q415 = true := by decide +kernel
theorem r416 : run tbl 80 19 l416 ⟨75582, putM P416 t6⟩ (memoK 75840 v416 Q416) = true := by decide +kernel
theorem w416 : wfM 75582 75840 P416 Q416 = true := by decide +kernel
theorem r417 : run tbl 80 20 l417 ⟨75840, putM P417 t6⟩ (memoK 75878 v417 Q417) = true := by decide +kernel
theorem w417 : wfM 75840 75878 P417 Q417 = true := by decide +kernel
theorem r418 : run tbl 80 19 l418 ⟨75878, putM P418 t6⟩ (memoK 76136 v418 Q418) = true := by decide +kernel
theorem w418 : wfM 75878 76136 P418 Q418 = true := by decide +kernel
theorem r419 : run tbl 80 20 l419 ⟨76136, putM P419 t6⟩ (memoK 76174 v419 Q419) = true := by decide +kernel
theorem w419 : wfM 76136 76174 P419 Q419 = true := by decide +kernel
theorem r420 : run tbl 80 19 l420 ⟨76174, putM P420 t6⟩ (memoK 76436 v420 Q420) = true := by decide +kernel
theorem w420 : wfM 76174 76436 P420 Q420 = true := by decide +kernel
theorem r421 : run tbl 80 20 l421 ⟨76436, putM P421 t6⟩ (memoK 76474 v421 Q421) = true := by decide +kernel
theorem w421 : wfM 76436 76474 P421 Q421 = true := by decide +kernel
theorem r422 : run tbl 80 19 l422 ⟨76474, putM P422 t6⟩ (memoK 76732 v422 Q422) = true := by decide +kernel
theorem w422 : wfM 76474 76732 P422 Q422 = true := by decide +kernel
theorem r423 : run tbl 80 20 l423 ⟨76732, putM P423 t6⟩ (memoK 76770 v423 Q423) = true := by decide +kernel
theorem w423 : wfM 76732 76770 P423 Q423 = true := by decide +kernel
end Go.Bvm.YtjplhnnijolpnaaGreatDoorMVarsMany
