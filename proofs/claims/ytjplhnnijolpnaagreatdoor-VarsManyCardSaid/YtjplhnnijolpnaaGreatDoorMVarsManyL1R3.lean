/- Calls of the law VarsMany, run apart. Conditions: none. -/
import Derived.Test.YtjplhnnijolpnaaGreatDoorMVarsManyD
import Derived.Test.YtjplhnnijolpnaaGreatDoorTV
set_option maxRecDepth 100000
namespace Go.Bvm.YtjplhnnijolpnaaGreatDoorMVarsMany
open Go.Bvm.YtjplhnnijolpnaaGreatDoorTV
theorem r145 : run tbl 80 19 l145 ⟨19486, putM P145 t6⟩ (memoK 19647 v145 Q145) = true := by decide +kernel
theorem w145 : wfM 19486 19647 P145 Q145 = true := by decide +kernel
theorem r146 : run tbl 80 19 l146 ⟨19673, putM P146 t6⟩ (memoK 19844 v146 Q146) = true := by decide +kernel
theorem w146 : wfM 19673 19844 P146 Q146 = true := by decide +kernel
theorem r147 : run tbl 80 19 l147 ⟨19874, putM P147 t6⟩ (memoK 20036 v147 Q147) = true := by decide +kernel
theorem w147 : wfM 19874 20036 P147 Q147 = true := by decide +kernel
theorem r148 : run tbl 80 19 l148 ⟨20063, putM P148 t6⟩ (memoK 20208 v148 Q148) = true := by decide +kernel
theorem w148 : wfM 20063 20208 P148 Q148 = true := by decide +kernel
theorem r149 : run tbl 80 19 l149 ⟨20229, putM P149 t6⟩ (memoK 20378 v149 Q149) = true := by decide +kernel
theorem w149 : wfM 20229 20378 P149 Q149 = true := by decide +kernel
theorem r150 : run tbl 80 19 l150 ⟨20399, putM P150 t6⟩ (memoK 20561 v150 Q150) = true := by decide +kernel
theorem w150 : wfM 20399 20561 P150 Q150 = true := by decide +kernel
theorem r151 : run tbl 80 19 l151 ⟨20588, putM P151 t6⟩ (memoK 20733 v151 Q151) = true := by decide +kernel
theorem w151 : wfM 20588 20733 P151 Q151 = true := by decide +kernel
theorem r152 : run tbl 80 19 l152 ⟨20754, putM P152 t6⟩ (memoK 20903 v152 Q152) = true := by decide +kernel
theorem w152 : wfM 20754 20903 P152 Q152 = true := by decide +kernel
theorem r153 : run tbl 80 19 l153 ⟨20924, putM P153 t6⟩ (memoK 21086 v153 Q153) = true := by decide +kernel
theorem w153 : wfM 20924 21086 P153 Q153 = true := by decide +kernel
theorem r154 : run tbl 80 19 l154 ⟨21113, putM P154 t6⟩ (memoK 21275 v154 Q154) = true := by decide +kernel
theorem w154 : wfM 21113 21275 P154 Q154 = true := by decide +kernel
theorem r155 : run tbl 80 19 l155 ⟨21302, putM P155 t6⟩ (memoK 21475 v155 Q155) = true := by decide +kernel
theorem w155 : wfM 21302 21475 P155 Q155 = true := by decide +kernel
theorem r156 : run tbl 80 19 l156 ⟨21507, putM P156 t6⟩ (memoK 21669 v156 Q156) = true := by decide +kernel
theorem w156 : wfM 21507 21669 P156 Q156 = true := by decide +kernel
theorem r157 : run tbl 80 19 l157 ⟨21696, putM P157 t6⟩ (memoK 21841 v157 Q157) = true := by decide +kernel
theorem w157 : wfM 21696 21841 P157 Q157 = true := by decide +kernel
theorem r158 : run tbl 80 19 l158 ⟨21862, putM P158 t6⟩ (memoK 22011 v158 Q158) = true := by decide +kernel
theorem w158 : wfM 21862 22011 P158 Q158 = true := by decide +kernel
theorem r159 : run tbl 80 19 l159 ⟨22032, putM P159 t6⟩ (memoK 22194 v159 Q159) = true := by decide +kernel
theorem w159 : wfM 22032 22194 P159 Q159 = true := by decide +kernel
theorem r160 : run tbl 80 19 l160 ⟨22301, putM P160 t6⟩ (memoK 22454 v160 Q160) = true := by decide +kernel
theorem w160 : wfM 22301 22454 P160 Q160 = true := by decide +kernel
theorem r161 : run tbl 80 19 l161 ⟨22475, putM P161 t6⟩ (memoK 22632 v161 Q161) = true := by decide +kernel
theorem w161 : wfM 22475 22632 P161 Q161 = true := by decide +kernel
theorem r162 : run tbl 80 19 l162 ⟨22653, putM P162 t6⟩ (memoK 22814 v162 Q162) = true := by decide +kernel
theorem w162 : wfM 22653 22814 P162 Q162 = true := by decide +kernel
theorem r163 : run tbl 80 19 l163 ⟨22835, putM P163 t6⟩ (memoK 22992 v163 Q163) = true := by decide +kernel
theorem w163 : wfM 22835 22992 P163 Q163 = true := by decide +kernel
theorem r164 : run tbl 80 19 l164 ⟨23013, putM P164 t6⟩ (memoK 23170 v164 Q164) = true := by decide +kernel
theorem w164 : wfM 23013 23170 P164 Q164 = true := by decide +kernel
theorem r165 : run tbl 80 19 l165 ⟨23191, putM P165 t6⟩ (memoK 23352 v165 Q165) = true := by decide +kernel
theorem w165 : wfM 23191 23352 P165 Q165 = true := by decide +kernel
theorem r166 : run tbl 80 19 l166 ⟨23373, putM P166 t6⟩ (memoK 23530 v166 Q166) = true := by decide +kernel
theorem w166 : wfM 23373 23530 P166 Q166 = true := by decide +kernel
theorem r167 : run tbl 80 19 l167 ⟨23551, putM P167 t6⟩ (memoK 23708 v167 Q167) = true := by decide +kernel
theorem w167 : wfM 23551 23708 P167 Q167 = true := by decide +kernel
theorem r168 : run tbl 80 19 l168 ⟨23729, putM P168 t6⟩ (memoK 23890 v168 Q168) = true := by decide +kernel
theorem w168 : wfM 23729 23890 P168 Q168 = true := by decide +kernel
theorem r169 : run tbl 80 19 l169 ⟨23911, putM P169 t6⟩ (memoK 24068 v169 Q169) = true := by decide +kernel
theorem w169 : wfM 23911 24068 P169 Q169 = true := by decide +kernel
theorem r170 : run tbl 80 19 l170 ⟨24089, putM P170 t6⟩ (memoK 24246 v170 Q170) = true := by decide +kernel
theorem w170 : wfM 24089 24246 P170 Q170 = true := by decide +kernel
theorem r171 : run tbl 80 19 l171 ⟨24267, putM P171 t6⟩ (memoK 24428 v171 Q171) = true := by decide +kernel
theorem w171 : wfM 24267 24428 P171 Q171 = true := by decide +kernel
theorem r172 : run tbl 80 19 l172 ⟨24449, putM P172 t6⟩ (memoK 24606 v172 Q172) = true := by decide +kernel
theorem w172 : wfM 24449 24606 P172 Q172 = true := by decide +kernel
theorem r173 : run tbl 80 19 l173 ⟨24627, putM P173 t6⟩ (memoK 24784 v173 Q173) = true := by decide +kernel
theorem w173 : wfM 24627 24784 P173 Q173 = true := by decide +kernel
theorem r174 : run tbl 80 19 l174 ⟨24805, putM P174 t6⟩ (memoK 24966 v174 Q174) = true := by decide +kernel
theorem w174 : wfM 24805 24966 P174 Q174 = true := by decide +kernel
theorem r175 : run tbl 80 19 l175 ⟨24987, putM P175 t6⟩ (memoK 25144 v175 Q175) = true := by decide +kernel
theorem w175 : wfM 24987 25144 P175 Q175 = true := by decide +kernel
theorem r176 : run tbl 80 19 l176 ⟨25245, putM P176 t6⟩ (memoK 25401 v176 Q176) = true := by decide +kernel
theorem w176 : wfM 25245 25401 P176 Q176 = true := by decide +kernel
theorem r177 : run tbl 80 19 l177 ⟨25423, putM P177 t6⟩ (memoK 25583 v177 Q177) = true := by decide +kernel
theorem w177 : wfM 25423 25583 P177 Q177 = true := by decide +kernel
theorem r178 : run tbl 80 19 l178 ⟨25605, putM P178 t6⟩ (memoK 25769 v178 Q178) = true := by decide +kernel
theorem w178 : wfM 25605 25769 P178 Q178 = true := by decide +kernel
theorem r179 : run tbl 80 19 l179 ⟨25791, putM P179 t6⟩ (memoK 25951 v179 Q179) = true := by decide +kernel
theorem w179 : wfM 25791 25951 P179 Q179 = true := by decide +kernel
end Go.Bvm.YtjplhnnijolpnaaGreatDoorMVarsMany
