/- Calls of the law VarsTypes, run apart. Conditions: none. -/
import Derived.Test.YtjplhnnijolpnaaGreatDoorMVarsTypesD
import Derived.Test.YtjplhnnijolpnaaGreatDoorTV
set_option maxRecDepth 100000
namespace Go.Bvm.YtjplhnnijolpnaaGreatDoorMVarsTypes
theorem r74 : run Go.Bvm.YtjplhnnijolpnaaGreatDoorTV.tbl 80 19 l74 ⟨7338, putM P74 t6⟩ (memoK 7423 v74 Q74) = true := by decide +kernel
theorem w74 : wfM 7338 7423 P74 Q74 = true := by decide +kernel
theorem r75 : run Go.Bvm.YtjplhnnijolpnaaGreatDoorTV.tbl 80 19 l75 ⟨7432, putM P75 t6⟩ (memoK 7521 v75 Q75) = true := by decide +kernel
theorem w75 : wfM 7432 7521 P75 Q75 = true := by decide +kernel
theorem r76 : run Go.Bvm.YtjplhnnijolpnaaGreatDoorTV.tbl 80 19 l76 ⟨7530, putM P76 t6⟩ (memoK 7614 v76 Q76) = true := by decide +kernel
theorem w76 : wfM 7530 7614 P76 Q76 = true := by decide +kernel
theorem r77 : run Go.Bvm.YtjplhnnijolpnaaGreatDoorTV.tbl 80 19 l77 ⟨7622, putM P77 t6⟩ (memoK 7707 v77 Q77) = true := by decide +kernel
theorem w77 : wfM 7622 7707 P77 Q77 = true := by decide +kernel
theorem r78 : run Go.Bvm.YtjplhnnijolpnaaGreatDoorTV.tbl 80 19 l78 ⟨7716, putM P78 t6⟩ (memoK 7805 v78 Q78) = true := by decide +kernel
theorem w78 : wfM 7716 7805 P78 Q78 = true := by decide +kernel
theorem r79 : run Go.Bvm.YtjplhnnijolpnaaGreatDoorTV.tbl 80 19 l79 ⟨7814, putM P79 t6⟩ (memoK 7898 v79 Q79) = true := by decide +kernel
theorem w79 : wfM 7814 7898 P79 Q79 = true := by decide +kernel
theorem r80 : run Go.Bvm.YtjplhnnijolpnaaGreatDoorTV.tbl 80 19 l80 ⟨7948, putM P80 t6⟩ (memoK 8029 v80 Q80) = true := by decide +kernel
theorem w80 : wfM 7948 8029 P80 Q80 = true := by decide +kernel
theorem r81 : run Go.Bvm.YtjplhnnijolpnaaGreatDoorTV.tbl 80 19 l81 ⟨8037, putM P81 t6⟩ (memoK 8123 v81 Q81) = true := by decide +kernel
theorem w81 : wfM 8037 8123 P81 Q81 = true := by decide +kernel
theorem r82 : run Go.Bvm.YtjplhnnijolpnaaGreatDoorTV.tbl 80 19 l82 ⟨8131, putM P82 t6⟩ (memoK 8221 v82 Q82) = true := by decide +kernel
theorem w82 : wfM 8131 8221 P82 Q82 = true := by decide +kernel
theorem r83 : run Go.Bvm.YtjplhnnijolpnaaGreatDoorTV.tbl 80 19 l83 ⟨8229, putM P83 t6⟩ (memoK 8315 v83 Q83) = true := by decide +kernel
theorem w83 : wfM 8229 8315 P83 Q83 = true := by decide +kernel
theorem r84 : run Go.Bvm.YtjplhnnijolpnaaGreatDoorTV.tbl 80 19 l84 ⟨8323, putM P84 t6⟩ (memoK 8412 v84 Q84) = true := by decide +kernel
theorem w84 : wfM 8323 8412 P84 Q84 = true := by decide +kernel
theorem r85 : run Go.Bvm.YtjplhnnijolpnaaGreatDoorTV.tbl 80 19 l85 ⟨8424, putM P85 t6⟩ (memoK 8517 v85 Q85) = true := by decide +kernel
theorem w85 : wfM 8424 8517 P85 Q85 = true := by decide +kernel
theorem r86 : run Go.Bvm.YtjplhnnijolpnaaGreatDoorTV.tbl 80 19 l86 ⟨8529, putM P86 t6⟩ (memoK 8615 v86 Q86) = true := by decide +kernel
theorem w86 : wfM 8529 8615 P86 Q86 = true := by decide +kernel
theorem r87 : run Go.Bvm.YtjplhnnijolpnaaGreatDoorTV.tbl 80 19 l87 ⟨8623, putM P87 t6⟩ (memoK 8712 v87 Q87) = true := by decide +kernel
theorem w87 : wfM 8623 8712 P87 Q87 = true := by decide +kernel
theorem r88 : run Go.Bvm.YtjplhnnijolpnaaGreatDoorTV.tbl 80 19 l88 ⟨8724, putM P88 t6⟩ (memoK 8817 v88 Q88) = true := by decide +kernel
theorem w88 : wfM 8724 8817 P88 Q88 = true := by decide +kernel
theorem r89 : run Go.Bvm.YtjplhnnijolpnaaGreatDoorTV.tbl 80 19 l89 ⟨8829, putM P89 t6⟩ (memoK 8915 v89 Q89) = true := by decide +kernel
theorem w89 : wfM 8829 8915 P89 Q89 = true := by decide +kernel
theorem r90 : run Go.Bvm.YtjplhnnijolpnaaGreatDoorTV.tbl 80 19 l90 ⟨8923, putM P90 t6⟩ (memoK 9010 v90 Q90) = true := by decide +kernel
theorem w90 : wfM 8923 9010 P90 Q90 = true := by decide +kernel
theorem r91 : run Go.Bvm.YtjplhnnijolpnaaGreatDoorTV.tbl 80 19 l91 ⟨9019, putM P91 t6⟩ (memoK 9110 v91 Q91) = true := by decide +kernel
theorem w91 : wfM 9019 9110 P91 Q91 = true := by decide +kernel
theorem r92 : run Go.Bvm.YtjplhnnijolpnaaGreatDoorTV.tbl 80 19 l92 ⟨9119, putM P92 t6⟩ (memoK 9205 v92 Q92) = true := by decide +kernel
theorem w92 : wfM 9119 9205 P92 Q92 = true := by decide +kernel
theorem r93 : run Go.Bvm.YtjplhnnijolpnaaGreatDoorTV.tbl 80 19 l93 ⟨9213, putM P93 t6⟩ (memoK 9300 v93 Q93) = true := by decide +kernel
theorem w93 : wfM 9213 9300 P93 Q93 = true := by decide +kernel
theorem r94 : run Go.Bvm.YtjplhnnijolpnaaGreatDoorTV.tbl 80 19 l94 ⟨9309, putM P94 t6⟩ (memoK 9400 v94 Q94) = true := by decide +kernel
theorem w94 : wfM 9309 9400 P94 Q94 = true := by decide +kernel
theorem r95 : run Go.Bvm.YtjplhnnijolpnaaGreatDoorTV.tbl 80 19 l95 ⟨9409, putM P95 t6⟩ (memoK 9495 v95 Q95) = true := by decide +kernel
theorem w95 : wfM 9409 9495 P95 Q95 = true := by decide +kernel
theorem r96 : run Go.Bvm.YtjplhnnijolpnaaGreatDoorTV.tbl 80 19 l96 ⟨9543, putM P96 t6⟩ (memoK 9617 v96 Q96) = true := by decide +kernel
theorem w96 : wfM 9543 9617 P96 Q96 = true := by decide +kernel
theorem r97 : run Go.Bvm.YtjplhnnijolpnaaGreatDoorTV.tbl 80 19 l97 ⟨9622, putM P97 t6⟩ (memoK 9700 v97 Q97) = true := by decide +kernel
theorem w97 : wfM 9622 9700 P97 Q97 = true := by decide +kernel
theorem r98 : run Go.Bvm.YtjplhnnijolpnaaGreatDoorTV.tbl 80 19 l98 ⟨9705, putM P98 t6⟩ (memoK 9787 v98 Q98) = true := by decide +kernel
theorem w98 : wfM 9705 9787 P98 Q98 = true := by decide +kernel
theorem r99 : run Go.Bvm.YtjplhnnijolpnaaGreatDoorTV.tbl 80 19 l99 ⟨9792, putM P99 t6⟩ (memoK 9870 v99 Q99) = true := by decide +kernel
theorem w99 : wfM 9792 9870 P99 Q99 = true := by decide +kernel
theorem r100 : run Go.Bvm.YtjplhnnijolpnaaGreatDoorTV.tbl 80 19 l100 ⟨9875, putM P100 t6⟩ (memoK 9953 v100 Q100) = true := by decide +kernel
theorem w100 : wfM 9875 9953 P100 Q100 = true := by decide +kernel
theorem r101 : run Go.Bvm.YtjplhnnijolpnaaGreatDoorTV.tbl 80 19 l101 ⟨9958, putM P101 t6⟩ (memoK 10040 v101 Q101) = true := by decide +kernel
theorem w101 : wfM 9958 10040 P101 Q101 = true := by decide +kernel
theorem r102 : run Go.Bvm.YtjplhnnijolpnaaGreatDoorTV.tbl 80 19 l102 ⟨10045, putM P102 t6⟩ (memoK 10123 v102 Q102) = true := by decide +kernel
theorem w102 : wfM 10045 10123 P102 Q102 = true := by decide +kernel
theorem r103 : run Go.Bvm.YtjplhnnijolpnaaGreatDoorTV.tbl 80 19 l103 ⟨10128, putM P103 t6⟩ (memoK 10206 v103 Q103) = true := by decide +kernel
theorem w103 : wfM 10128 10206 P103 Q103 = true := by decide +kernel
theorem r104 : run Go.Bvm.YtjplhnnijolpnaaGreatDoorTV.tbl 80 19 l104 ⟨10211, putM P104 t6⟩ (memoK 10293 v104 Q104) = true := by decide +kernel
theorem w104 : wfM 10211 10293 P104 Q104 = true := by decide +kernel
theorem r105 : run Go.Bvm.YtjplhnnijolpnaaGreatDoorTV.tbl 80 19 l105 ⟨10298, putM P105 t6⟩ (memoK 10376 v105 Q105) = true := by decide +kernel
theorem w105 : wfM 10298 10376 P105 Q105 = true := by decide +kernel
theorem r106 : run Go.Bvm.YtjplhnnijolpnaaGreatDoorTV.tbl 80 19 l106 ⟨10381, putM P106 t6⟩ (memoK 10459 v106 Q106) = true := by decide +kernel
theorem w106 : wfM 10381 10459 P106 Q106 = true := by decide +kernel
theorem r107 : run Go.Bvm.YtjplhnnijolpnaaGreatDoorTV.tbl 80 19 l107 ⟨10464, putM P107 t6⟩ (memoK 10546 v107 Q107) = true := by decide +kernel
theorem w107 : wfM 10464 10546 P107 Q107 = true := by decide +kernel
theorem r108 : run Go.Bvm.YtjplhnnijolpnaaGreatDoorTV.tbl 80 19 l108 ⟨10551, putM P108 t6⟩ (memoK 10629 v108 Q108) = true := by decide +kernel
theorem w108 : wfM 10551 10629 P108 Q108 = true := by decide +kernel
theorem r109 : run Go.Bvm.YtjplhnnijolpnaaGreatDoorTV.tbl 80 19 l109 ⟨10634, putM P109 t6⟩ (memoK 10712 v109 Q109) = true := by decide +kernel
theorem w109 : wfM 10634 10712 P109 Q109 = true := by decide +kernel
theorem r110 : run Go.Bvm.YtjplhnnijolpnaaGreatDoorTV.tbl 80 19 l110 ⟨10717, putM P110 t6⟩ (memoK 10799 v110 Q110) = true := by decide +kernel
theorem w110 : wfM 10717 10799 P110 Q110 = true := by decide +kernel
theorem r111 : run Go.Bvm.YtjplhnnijolpnaaGreatDoorTV.tbl 80 19 l111 ⟨10804, putM P111 t6⟩ (memoK 10882 v111 Q111) = true := by decide +kernel
theorem w111 : wfM 10804 10882 P111 Q111 = true := by decide +kernel
theorem r112 : run Go.Bvm.YtjplhnnijolpnaaGreatDoorTV.tbl 80 19 l112 ⟨10939, putM P112 t6⟩ (memoK 11043 v112 Q112) = true := by decide +kernel
theorem w112 : wfM 10939 11043 P112 Q112 = true := by decide +kernel
theorem r113 : run Go.Bvm.YtjplhnnijolpnaaGreatDoorTV.tbl 80 19 l113 ⟨11056, putM P113 t6⟩ (memoK 11168 v113 Q113) = true := by decide +kernel
theorem w113 : wfM 11056 11168 P113 Q113 = true := by decide +kernel
theorem r114 : run Go.Bvm.YtjplhnnijolpnaaGreatDoorTV.tbl 80 19 l114 ⟨11184, putM P114 t6⟩ (memoK 11301 v114 Q114) = true := by decide +kernel
theorem w114 : wfM 11184 11301 P114 Q114 = true := by decide +kernel
theorem r115 : run Go.Bvm.YtjplhnnijolpnaaGreatDoorTV.tbl 80 19 l115 ⟨11317, putM P115 t6⟩ (memoK 11430 v115 Q115) = true := by decide +kernel
theorem w115 : wfM 11317 11430 P115 Q115 = true := by decide +kernel
theorem r116 : run Go.Bvm.YtjplhnnijolpnaaGreatDoorTV.tbl 80 19 l116 ⟨11447, putM P116 t6⟩ (memoK 11553 v116 Q116) = true := by decide +kernel
theorem w116 : wfM 11447 11553 P116 Q116 = true := by decide +kernel
theorem r117 : run Go.Bvm.YtjplhnnijolpnaaGreatDoorTV.tbl 80 19 l117 ⟨11566, putM P117 t6⟩ (memoK 11676 v117 Q117) = true := by decide +kernel
theorem w117 : wfM 11566 11676 P117 Q117 = true := by decide +kernel
theorem r118 : run Go.Bvm.YtjplhnnijolpnaaGreatDoorTV.tbl 80 19 l118 ⟨11689, putM P118 t6⟩ (memoK 11802 v118 Q118) = true := by decide +kernel
theorem w118 : wfM 11689 11802 P118 Q118 = true := by decide +kernel
theorem r119 : run Go.Bvm.YtjplhnnijolpnaaGreatDoorTV.tbl 80 19 l119 ⟨11819, putM P119 t6⟩ (memoK 11925 v119 Q119) = true := by decide +kernel
theorem w119 : wfM 11819 11925 P119 Q119 = true := by decide +kernel
theorem r120 : run Go.Bvm.YtjplhnnijolpnaaGreatDoorTV.tbl 80 19 l120 ⟨11938, putM P120 t6⟩ (memoK 12048 v120 Q120) = true := by decide +kernel
theorem w120 : wfM 11938 12048 P120 Q120 = true := by decide +kernel
theorem r121 : run Go.Bvm.YtjplhnnijolpnaaGreatDoorTV.tbl 80 19 l121 ⟨12061, putM P121 t6⟩ (memoK 12174 v121 Q121) = true := by decide +kernel
theorem w121 : wfM 12061 12174 P121 Q121 = true := by decide +kernel
theorem r122 : run Go.Bvm.YtjplhnnijolpnaaGreatDoorTV.tbl 80 19 l122 ⟨12191, putM P122 t6⟩ (memoK 12304 v122 Q122) = true := by decide +kernel
theorem w122 : wfM 12191 12304 P122 Q122 = true := by decide +kernel
theorem r123 : run Go.Bvm.YtjplhnnijolpnaaGreatDoorTV.tbl 80 19 l123 ⟨12321, putM P123 t6⟩ (memoK 12443 v123 Q123) = true := by decide +kernel
theorem w123 : wfM 12321 12443 P123 Q123 = true := by decide +kernel
theorem r124 : run Go.Bvm.YtjplhnnijolpnaaGreatDoorTV.tbl 80 19 l124 ⟨12465, putM P124 t6⟩ (memoK 12578 v124 Q124) = true := by decide +kernel
theorem w124 : wfM 12465 12578 P124 Q124 = true := by decide +kernel
theorem r125 : run Go.Bvm.YtjplhnnijolpnaaGreatDoorTV.tbl 80 19 l125 ⟨12595, putM P125 t6⟩ (memoK 12701 v125 Q125) = true := by decide +kernel
theorem w125 : wfM 12595 12701 P125 Q125 = true := by decide +kernel
theorem r126 : run Go.Bvm.YtjplhnnijolpnaaGreatDoorTV.tbl 80 19 l126 ⟨12714, putM P126 t6⟩ (memoK 12824 v126 Q126) = true := by decide +kernel
theorem w126 : wfM 12714 12824 P126 Q126 = true := by decide +kernel
theorem r127 : run Go.Bvm.YtjplhnnijolpnaaGreatDoorTV.tbl 80 19 l127 ⟨12837, putM P127 t6⟩ (memoK 12950 v127 Q127) = true := by decide +kernel
theorem w127 : wfM 12837 12950 P127 Q127 = true := by decide +kernel
theorem r128 : run Go.Bvm.YtjplhnnijolpnaaGreatDoorTV.tbl 80 19 l128 ⟨13019, putM P128 t6⟩ (memoK 13123 v128 Q128) = true := by decide +kernel
theorem w128 : wfM 13019 13123 P128 Q128 = true := by decide +kernel
theorem r129 : run Go.Bvm.YtjplhnnijolpnaaGreatDoorTV.tbl 80 19 l129 ⟨13136, putM P129 t6⟩ (memoK 13246 v129 Q129) = true := by decide +kernel
theorem w129 : wfM 13136 13246 P129 Q129 = true := by decide +kernel
theorem r130 : run Go.Bvm.YtjplhnnijolpnaaGreatDoorTV.tbl 80 19 l130 ⟨13259, putM P130 t6⟩ (memoK 13376 v130 Q130) = true := by decide +kernel
theorem w130 : wfM 13259 13376 P130 Q130 = true := by decide +kernel
theorem r131 : run Go.Bvm.YtjplhnnijolpnaaGreatDoorTV.tbl 80 19 l131 ⟨13392, putM P131 t6⟩ (memoK 13498 v131 Q131) = true := by decide +kernel
theorem w131 : wfM 13392 13498 P131 Q131 = true := by decide +kernel
theorem r132 : run Go.Bvm.YtjplhnnijolpnaaGreatDoorTV.tbl 80 19 l132 ⟨13511, putM P132 t6⟩ (memoK 13622 v132 Q132) = true := by decide +kernel
theorem w132 : wfM 13511 13622 P132 Q132 = true := by decide +kernel
theorem r133 : run Go.Bvm.YtjplhnnijolpnaaGreatDoorTV.tbl 80 19 l133 ⟨13636, putM P133 t6⟩ (memoK 13755 v133 Q133) = true := by decide +kernel
theorem w133 : wfM 13636 13755 P133 Q133 = true := by decide +kernel
theorem r134 : run Go.Bvm.YtjplhnnijolpnaaGreatDoorTV.tbl 80 19 l134 ⟨13773, putM P134 t6⟩ (memoK 13879 v134 Q134) = true := by decide +kernel
theorem w134 : wfM 13773 13879 P134 Q134 = true := by decide +kernel
theorem r135 : run Go.Bvm.YtjplhnnijolpnaaGreatDoorTV.tbl 80 19 l135 ⟨13892, putM P135 t6⟩ (memoK 14003 v135 Q135) = true := by decide +kernel
theorem w135 : wfM 13892 14003 P135 Q135 = true := by decide +kernel
theorem r136 : run Go.Bvm.YtjplhnnijolpnaaGreatDoorTV.tbl 80 19 l136 ⟨14017, putM P136 t6⟩ (memoK 14136 v136 Q136) = true := by decide +kernel
theorem w136 : wfM 14017 14136 P136 Q136 = true := by decide +kernel
theorem r137 : run Go.Bvm.YtjplhnnijolpnaaGreatDoorTV.tbl 80 19 l137 ⟨14154, putM P137 t6⟩ (memoK 14260 v137 Q137) = true := by decide +kernel
theorem w137 : wfM 14154 14260 P137 Q137 = true := by decide +kernel
end Go.Bvm.YtjplhnnijolpnaaGreatDoorMVarsTypes
