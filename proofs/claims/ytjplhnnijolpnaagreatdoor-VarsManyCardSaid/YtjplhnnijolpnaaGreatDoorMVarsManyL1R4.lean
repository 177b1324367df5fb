/- Calls of the law VarsMany, run apart. Conditions: none. -/
import Derived.Test.YtjplhnnijolpnaaGreatDoorMVarsManyD
import Derived.Test.YtjplhnnijolpnaaGreatDoorTV
set_option maxRecDepth 100000
namespace Go.Bvm.YtjplhnnijolpnaaGreatDoorMVarsMany
open Go.Bvm.YtjplhnnijolpnaaGreatDoorTV
theorem r180 : run tbl 80 19 l180 ⟨25973, putM P180 t6⟩ (memoK 26133 v180 Q180) = true := by decide +kernel
theorem w180 : wfM 25973 26133 P180 Q180 = true := by decide +kernel
theorem r181 : run tbl 80 19 l181 ⟨26155, putM P181 t6⟩ (memoK 26319 v181 Q181) = true := by decide +kernel
theorem w181 : wfM 26155 26319 P181 Q181 = true := by decide +kernel
theorem r182 : run tbl 80 19 l182 ⟨26341, putM P182 t6⟩ (memoK 26501 v182 Q182) = true := by decide +kernel
theorem w182 : wfM 26341 26501 P182 Q182 = true := by decide +kernel
theorem r183 : run tbl 80 19 l183 ⟨26523, putM P183 t6⟩ (memoK 26683 v183 Q183) = true := by decide +kernel
theorem w183 : wfM 26523 26683 P183 Q183 = true := by decide +kernel
theorem r184 : run tbl 80 19 l184 ⟨26705, putM P184 t6⟩ (memoK 26869 v184 Q184) = true := by decide +kernel
theorem w184 : wfM 26705 26869 P184 Q184 = true := by decide +kernel
theorem r185 : run tbl 80 19 l185 ⟨26891, putM P185 t6⟩ (memoK 27051 v185 Q185) = true := by decide +kernel
theorem w185 : wfM 26891 27051 P185 Q185 = true := by decide +kernel
theorem r186 : run tbl 80 19 l186 ⟨27073, putM P186 t6⟩ (memoK 27233 v186 Q186) = true := by decide +kernel
theorem w186 : wfM 27073 27233 P186 Q186 = true := by decide +kernel
theorem r187 : run tbl 80 19 l187 ⟨27255, putM P187 t6⟩ (memoK 27419 v187 Q187) = true := by decide +kernel
theorem w187 : wfM 27255 27419 P187 Q187 = true := by decide +kernel
theorem r188 : run tbl 80 19 l188 ⟨27441, putM P188 t6⟩ (memoK 27601 v188 Q188) = true := by decide +kernel
theorem w188 : wfM 27441 27601 P188 Q188 = true := by decide +kernel
theorem r189 : run tbl 80 19 l189 ⟨27623, putM P189 t6⟩ (memoK 27783 v189 Q189) = true := by decide +kernel
theorem w189 : wfM 27623 27783 P189 Q189 = true := by decide +kernel
theorem r190 : run tbl 80 19 l190 ⟨27805, putM P190 t6⟩ (memoK 27969 v190 Q190) = true := by decide +kernel
theorem w190 : wfM 27805 27969 P190 Q190 = true := by decide +kernel
theorem r191 : run tbl 80 19 l191 ⟨27991, putM P191 t6⟩ (memoK 28151 v191 Q191) = true := by decide +kernel
theorem w191 : wfM 27991 28151 P191 Q191 = true := by decide +kernel
theorem r192 : run tbl 80 19 l192 ⟨28253, putM P192 t6⟩ (memoK 28430 v192 Q192) = true := by decide +kernel
theorem w192 : wfM 28253 28430 P192 Q192 = true := by decide +kernel
theorem r193 : run tbl 80 19 l193 ⟨28458, putM P193 t6⟩ (memoK 28646 v193 Q193) = true := by decide +kernel
theorem w193 : wfM 28458 28646 P193 Q193 = true := by decide +kernel
theorem r194 : run tbl 80 19 l194 ⟨28677, putM P194 t6⟩ (memoK 28876 v194 Q194) = true := by decide +kernel
theorem w194 : wfM 28677 28876 P194 Q194 = true := by decide +kernel
theorem r195 : run tbl 80 19 l195 ⟨28911, putM P195 t6⟩ (memoK 29100 v195 Q195) = true := by decide +kernel
theorem w195 : wfM 28911 29100 P195 Q195 = true := by decide +kernel
theorem r196 : run tbl 80 19 l196 ⟨29132, putM P196 t6⟩ (memoK 29299 v196 Q196) = true := by decide +kernel
theorem w196 : wfM 29132 29299 P196 Q196 = true := by decide +kernel
theorem r197 : run tbl 80 19 l197 ⟨29324, putM P197 t6⟩ (memoK 29495 v197 Q197) = true := by decide +kernel
theorem w197 : wfM 29324 29495 P197 Q197 = true := by decide +kernel
theorem r198 : run tbl 80 19 l198 ⟨29520, putM P198 t6⟩ (memoK 29709 v198 Q198) = true := by decide +kernel
theorem w198 : wfM 29520 29709 P198 Q198 = true := by decide +kernel
theorem r199 : run tbl 80 19 l199 ⟨29741, putM P199 t6⟩ (memoK 29908 v199 Q199) = true := by decide +kernel
theorem w199 : wfM 29741 29908 P199 Q199 = true := by decide +kernel
theorem r200 : run tbl 80 19 l200 ⟨29933, putM P200 t6⟩ (memoK 30104 v200 Q200) = true := by decide +kernel
theorem w200 : wfM 29933 30104 P200 Q200 = true := by decide +kernel
theorem r201 : run tbl 80 19 l201 ⟨30129, putM P201 t6⟩ (memoK 30318 v201 Q201) = true := by decide +kernel
theorem w201 : wfM 30129 30318 P201 Q201 = true := by decide +kernel
theorem r202 : run tbl 80 19 l202 ⟨30350, putM P202 t6⟩ (memoK 30539 v202 Q202) = true := by decide +kernel
theorem w202 : wfM 30350 30539 P202 Q202 = true := by decide +kernel
theorem r203 : run tbl 80 19 l203 ⟨30571, putM P203 t6⟩ (memoK 30772 v203 Q203) = true := by decide +kernel
theorem w203 : wfM 30571 30772 P203 Q203 = true := by decide +kernel
theorem r204 : run tbl 80 19 l204 ⟨30809, putM P204 t6⟩ (memoK 30998 v204 Q204) = true := by decide +kernel
theorem w204 : wfM 30809 30998 P204 Q204 = true := by decide +kernel
theorem r205 : run tbl 80 19 l205 ⟨31030, putM P205 t6⟩ (memoK 31197 v205 Q205) = true := by decide +kernel
theorem w205 : wfM 31030 31197 P205 Q205 = true := by decide +kernel
theorem r206 : run tbl 80 19 l206 ⟨31222, putM P206 t6⟩ (memoK 31393 v206 Q206) = true := by decide +kernel
theorem w206 : wfM 31222 31393 P206 Q206 = true := by decide +kernel
theorem r207 : run tbl 80 19 l207 ⟨31418, putM P207 t6⟩ (memoK 31607 v207 Q207) = true := by decide +kernel
theorem w207 : wfM 31418 31607 P207 Q207 = true := by decide +kernel
theorem r208 : run tbl 80 19 l208 ⟨31729, putM P208 t6⟩ (memoK 31904 v208 Q208) = true := by decide +kernel
theorem w208 : wfM 31729 31904 P208 Q208 = true := by decide +kernel
theorem r209 : run tbl 80 19 l209 ⟨31929, putM P209 t6⟩ (memoK 32108 v209 Q209) = true := by decide +kernel
theorem w209 : wfM 31929 32108 P209 Q209 = true := by decide +kernel
theorem r210 : run tbl 80 19 l210 ⟨32133, putM P210 t6⟩ (memoK 32316 v210 Q210) = true := by decide +kernel
theorem w210 : wfM 32133 32316 P210 Q210 = true := by decide +kernel
theorem r211 : run tbl 80 19 l211 ⟨32341, putM P211 t6⟩ (memoK 32520 v211 Q211) = true := by decide +kernel
theorem w211 : wfM 32341 32520 P211 Q211 = true := by decide +kernel
end Go.Bvm.YtjplhnnijolpnaaGreatDoorMVarsMany
