/- Calls of the law VarsMany, run apart. Conditions: none. -/
import Derived.Test.YtjplhnnijolpnaaGreatDoorMVarsManyD
import Derived.Test.YtjplhnnijolpnaaGreatDoorTV
set_option maxRecDepth 100000
namespace Go.Bvm.YtjplhnnijolpnaaGreatDoorMVarsMany
open Go.Bvm.YtjplhnnijolpnaaGreatDoorTV
theorem r59 : run tbl 80 19 l59 ⟨6670, putM P59 t6⟩ (memoK 6790 v59 Q59) = true := by decide +kernel
theorem w59 : wfM 6670 6790 P59 Q59 = true := by decide +kernel
theorem r60 : run tbl 80 19 l60 ⟨6812, putM P60 t6⟩ (memoK 6923 v60 Q60) = true := by decide +kernel
theorem w60 : wfM 6812 6923 P60 Q60 = true := by decide +kernel
theorem r61 : run tbl 80 19 l61 ⟨6940, putM P61 t6⟩ (memoK 7044 v61 Q61) = true := by decide +kernel
theorem w61 : wfM 6940 7044 P61 Q61 = true := by decide +kernel
theorem r62 : run tbl 80 19 l62 ⟨7057, putM P62 t6⟩ (memoK 7165 v62 Q62) = true := by decide +kernel
theorem w62 : wfM 7057 7165 P62 Q62 = true := by decide +kernel
theorem r63 : run tbl 80 19 l63 ⟨7178, putM P63 t6⟩ (memoK 7289 v63 Q63) = true := by decide +kernel
theorem w63 : wfM 7178 7289 P63 Q63 = true := by decide +kernel
theorem r64 : run tbl 80 19 l64 ⟨7366, putM P64 t6⟩ (memoK 7478 v64 Q64) = true := by decide +kernel
theorem w64 : wfM 7366 7478 P64 Q64 = true := by decide +kernel
theorem r65 : run tbl 80 19 l65 ⟨7491, putM P65 t6⟩ (memoK 7607 v65 Q65) = true := by decide +kernel
theorem w65 : wfM 7491 7607 P65 Q65 = true := by decide +kernel
theorem r66 : run tbl 80 19 l66 ⟨7620, putM P66 t6⟩ (memoK 7740 v66 Q66) = true := by decide +kernel
theorem w66 : wfM 7620 7740 P66 Q66 = true := by decide +kernel
theorem r67 : run tbl 80 19 l67 ⟨7753, putM P67 t6⟩ (memoK 7869 v67 Q67) = true := by decide +kernel
theorem w67 : wfM 7753 7869 P67 Q67 = true := by decide +kernel
theorem r68 : run tbl 80 19 l68 ⟨7882, putM P68 t6⟩ (memoK 7998 v68 Q68) = true := by decide +kernel
theorem w68 : wfM 7882 7998 P68 Q68 = true := by decide +kernel
theorem r69 : run tbl 80 19 l69 ⟨8011, putM P69 t6⟩ (memoK 8131 v69 Q69) = true := by decide +kernel
theorem w69 : wfM 8011 8131 P69 Q69 = true := by decide +kernel
theorem r70 : run tbl 80 19 l70 ⟨8144, putM P70 t6⟩ (memoK 8260 v70 Q70) = true := by decide +kernel
theorem w70 : wfM 8144 8260 P70 Q70 = true := by decide +kernel
theorem r71 : run tbl 80 19 l71 ⟨8273, putM P71 t6⟩ (memoK 8389 v71 Q71) = true := by decide +kernel
theorem w71 : wfM 8273 8389 P71 Q71 = true := by decide +kernel
theorem r72 : run tbl 80 19 l72 ⟨8402, putM P72 t6⟩ (memoK 8522 v72 Q72) = true := by decide +kernel
theorem w72 : wfM 8402 8522 P72 Q72 = true := by decide +kernel
theorem r73 : run tbl 80 19 l73 ⟨8535, putM P73 t6⟩ (memoK 8651 v73 Q73) = true := by decide +kernel
theorem w73 : wfM 8535 8651 P73 Q73 = true := by decide +kernel
theorem r74 : run tbl 80 19 l74 ⟨8664, putM P74 t6⟩ (memoK 8780 v74 Q74) = true := by decide +kernel
theorem w74 : wfM 8664 8780 P74 Q74 = true := by decide +kernel
theorem r75 : run tbl 80 19 l75 ⟨8793, putM P75 t6⟩ (memoK 8913 v75 Q75) = true := by decide +kernel
theorem w75 : wfM 8793 8913 P75 Q75 = true := by decide +kernel
theorem r76 : run tbl 80 19 l76 ⟨8926, putM P76 t6⟩ (memoK 9042 v76 Q76) = true := by decide +kernel
theorem w76 : wfM 8926 9042 P76 Q76 = true := by decide +kernel
theorem r77 : run tbl 80 19 l77 ⟨9055, putM P77 t6⟩ (memoK 9171 v77 Q77) = true := by decide +kernel
theorem w77 : wfM 9055 9171 P77 Q77 = true := by decide +kernel
theorem r78 : run tbl 80 19 l78 ⟨9184, putM P78 t6⟩ (memoK 9304 v78 Q78) = true := by decide +kernel
theorem w78 : wfM 9184 9304 P78 Q78 = true := by decide +kernel
theorem r79 : run tbl 80 19 l79 ⟨9317, putM P79 t6⟩ (memoK 9433 v79 Q79) = true := by decide +kernel
theorem w79 : wfM 9317 9433 P79 Q79 = true := by decide +kernel
theorem r80 : run tbl 80 19 l80 ⟨9506, putM P80 t6⟩ (memoK 9619 v80 Q80) = true := by decide +kernel
theorem w80 : wfM 9506 9619 P80 Q80 = true := by decide +kernel
theorem r81 : run tbl 80 19 l81 ⟨9633, putM P81 t6⟩ (memoK 9750 v81 Q81) = true := by decide +kernel
theorem w81 : wfM 9633 9750 P81 Q81 = true := by decide +kernel
theorem r82 : run tbl 80 19 l82 ⟨9764, putM P82 t6⟩ (memoK 9885 v82 Q82) = true := by decide +kernel
theorem w82 : wfM 9764 9885 P82 Q82 = true := by decide +kernel
theorem r83 : run tbl 80 19 l83 ⟨9899, putM P83 t6⟩ (memoK 10016 v83 Q83) = true := by decide +kernel
theorem w83 : wfM 9899 10016 P83 Q83 = true := by decide +kernel
theorem r84 : run tbl 80 19 l84 ⟨10030, putM P84 t6⟩ (memoK 10147 v84 Q84) = true := by decide +kernel
theorem w84 : wfM 10030 10147 P84 Q84 = true := by decide +kernel
theorem r85 : run tbl 80 19 l85 ⟨10161, putM P85 t6⟩ (memoK 10282 v85 Q85) = true := by decide +kernel
theorem w85 : wfM 10161 10282 P85 Q85 = true := by decide +kernel
theorem r86 : run tbl 80 19 l86 ⟨10296, putM P86 t6⟩ (memoK 10413 v86 Q86) = true := by decide +kernel
theorem w86 : wfM 10296 10413 P86 Q86 = true := by decide +kernel
theorem r87 : run tbl 80 19 l87 ⟨10427, putM P87 t6⟩ (memoK 10544 v87 Q87) = true := by decide +kernel
theorem w87 : wfM 10427 10544 P87 Q87 = true := by decide +kernel
theorem r88 : run tbl 80 19 l88 ⟨10558, putM P88 t6⟩ (memoK 10679 v88 Q88) = true := by decide +kernel
theorem w88 : wfM 10558 10679 P88 Q88 = true := by decide +kernel
theorem r89 : run tbl 80 19 l89 ⟨10693, putM P89 t6⟩ (memoK 10810 v89 Q89) = true := by decide +kernel
theorem w89 : wfM 10693 10810 P89 Q89 = true := by decide +kernel
theorem r90 : run tbl 80 19 l90 ⟨10824, putM P90 t6⟩ (memoK 10941 v90 Q90) = true := by decide +kernel
theorem w90 : wfM 10824 10941 P90 Q90 = true := by decide +kernel
theorem r91 : run tbl 80 19 l91 ⟨10955, putM P91 t6⟩ (memoK 11076 v91 Q91) = true := by decide +kernel
theorem w91 : wfM 10955 11076 P91 Q91 = true := by decide +kernel
theorem r92 : run tbl 80 19 l92 ⟨11090, putM P92 t6⟩ (memoK 11207 v92 Q92) = true := by decide +kernel
theorem w92 : wfM 11090 11207 P92 Q92 = true := by decide +kernel
theorem r93 : run tbl 80 19 l93 ⟨11221, putM P93 t6⟩ (memoK 11338 v93 Q93) = true := by decide +kernel
theorem w93 : wfM 11221 11338 P93 Q93 = true := by decide +kernel
theorem r94 : run tbl 80 19 l94 ⟨11352, putM P94 t6⟩ (memoK 11473 v94 Q94) = true := by decide +kernel
theorem w94 : wfM 11352 11473 P94 Q94 = true := by decide +kernel
theorem r95 : run tbl 80 19 l95 ⟨11487, putM P95 t6⟩ (memoK 11604 v95 Q95) = true := by decide +kernel
theorem w95 : wfM 11487 11604 P95 Q95 = true := by decide +kernel
theorem r96 : run tbl 80 19 l96 ⟨11678, putM P96 t6⟩ (memoK 11804 v96 Q96) = true := by decide +kernel
theorem w96 : wfM 11678 11804 P96 Q96 = true := by decide +kernel
theorem r97 : run tbl 80 19 l97 ⟨11822, putM P97 t6⟩ (memoK 11957 v97 Q97) = true := by decide +kernel
theorem w97 : wfM 11822 11957 P97 Q97 = true := by decide +kernel
theorem r98 : run tbl 80 19 l98 ⟨11978, putM P98 t6⟩ (memoK 12122 v98 Q98) = true := by decide +kernel
theorem w98 : wfM 11978 12122 P98 Q98 = true := by decide +kernel
theorem r99 : run tbl 80 19 l99 ⟨12147, putM P99 t6⟩ (memoK 12283 v99 Q99) = true := by decide +kernel
theorem w99 : wfM 12147 12283 P99 Q99 = true := by decide +kernel
theorem r100 : run tbl 80 19 l100 ⟨12305, putM P100 t6⟩ (memoK 12429 v100 Q100) = true := by decide +kernel
theorem w100 : wfM 12305 12429 P100 Q100 = true := by decide +kernel
theorem r101 : run tbl 80 19 l101 ⟨12446, putM P101 t6⟩ (memoK 12574 v101 Q101) = true := by decide +kernel
theorem w101 : wfM 12446 12574 P101 Q101 = true := by decide +kernel
theorem r102 : run tbl 80 19 l102 ⟨12591, putM P102 t6⟩ (memoK 12727 v102 Q102) = true := by decide +kernel
theorem w102 : wfM 12591 12727 P102 Q102 = true := by decide +kernel
theorem r103 : run tbl 80 19 l103 ⟨12749, putM P103 t6⟩ (memoK 12873 v103 Q103) = true := by decide +kernel
theorem w103 : wfM 12749 12873 P103 Q103 = true := by decide +kernel
theorem r104 : run tbl 80 19 l104 ⟨12890, putM P104 t6⟩ (memoK 13018 v104 Q104) = true := by decide +kernel
theorem w104 : wfM 12890 13018 P104 Q104 = true := by decide +kernel
theorem r105 : run tbl 80 19 l105 ⟨13035, putM P105 t6⟩ (memoK 13171 v105 Q105) = true := by decide +kernel
theorem w105 : wfM 13035 13171 P105 Q105 = true := by decide +kernel
end Go.Bvm.YtjplhnnijolpnaaGreatDoorMVarsMany
