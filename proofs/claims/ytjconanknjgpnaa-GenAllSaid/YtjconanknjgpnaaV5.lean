/-
  The check of expressions.
-/
import Derived.Test.YtjconanknjgpnaaV3
set_option maxRecDepth 100000
set_option linter.unusedVariables false
set_option linter.unusedSimpArgs false
namespace Go.Proofs.Ytjconanknjgpnaa.vars
open Go Go.Sx
def c80 : VC := ⟨⟨[], []⟩, [(88, [(some 10), none, none]), (89, [(some 10)]), (92, [none]), (45, [none])], [(1, [⟨[(4, .ptr 1 0), (3, .ptr 0 0), (9, .slx 2 10 0), (10, .slx 1 0 0), (0, 64)], [(1, [J 0, J 0, .str [], .str [], J 0, J 0, J 0, J 0, .flt .f64 0, .nsl]), (0, [65, 66, 67, 68, 69, 70, 71, 72, 73, 74])], 3, 2, [⟨2, 10, 0, 9, none⟩], [], []⟩])], 0, true, [(80, ft80), (90, ft90), (91, ft91)]⟩
def t80 : VT :=
 (.lt (.bin .eql 3 false true) [65, J 1] 75 none
 (.ite 75
 (.done (.tup [J 0, 65, 71, 67, 68, 69, 70, 71, 72, 73, 74, J 0]))
 (.lt (.bin .eql 3 false true) [65, J 2] 76 none
 (.ite 76
 (.callF 90 ft90 [64, 65, 66, 67, 68, 69, 70, 71, 72, 73, 74] 77
 (.cons 11
 (.done (.tup [J 0, 88, 89, 90, 91, 92, 93, 94, 95, 96, 97, 98]))
 .nil))
 (.lt (.bin .eql 3 false true) [65, J 3] 77 none
 (.ite 77
 (.call 88 [64, 67] 78 [(some 10), none, none]
 (.lt (.un .not) [89] 90 none
 (.ite 90
 (.done (.tup [J 0, 65, 66, 67, 68, 69, 70, 71, 72, 73, 74, J 3]))
 (.lt (.bin .eql 3 false true) [81, J 0] 91 none
 (.ite 91
 (.done (.tup [J 0, 65, 66, 67, 68, 69, 70, 71, 72, 73, 74, J 4]))
 (.loop 92 0 [.nsl, J 0]
 (.cons 2
 (.lt (.len 38) [74] 94 none
 (.lt (.bin .lss 3 false false) [93, 94] 95 none
 (.ite 95
 (.lt (.iaddr 38) [74, 93] 96 none
 (.lt (.load 40) [96] 97 (some 10)
 (.callF 80 ft80 [64, 97, 98, 99, 100, 101, 102, 103, 104, 105, 106] 107
 (.cons 11
 (.lt (.bin .neq 31 false true) [128, J 0] 129 none
 (.ite 129
 (.done (.tup [J 0, 65, 66, 67, 68, 69, 70, 71, 72, 73, 74, 128]))
 (.lt (.app 10 112) [92, .agg [118, 119, 120, 121, 122, 123, 124, 125, 126, 127]] 130 none
 (.lt (.bin .add 3 false true) [93, J 1] 131 none
 (.again 0 0 [130, 131])))))
 .nil))))
 (.lt (.bin .eql 3 false true) [65, J 3] 96 none
 (.ite 96
 (.callF 91 ft91 [64, 65, 66, 67, 68, 69, 70, 71, 72, 73, 74, 92] 97
 (.cons 11
 (.done (.tup [J 0, 109, 110, 111, 112, 113, 114, 115, 116, 117, 118, 119]))
 .nil))
 (.lt .inb [92, J 0] 97 none
 (.lt (.ldx 3 10 1) [92, 97] 98 none
 (.lt (.bin .eql 3 false true) [65, J 17] 99 none
 (.ite 99
 (.lt (.bin .eql 3 false true) [98, J 1] 100 none
 (.ite 100
 (.done (.tup [J 0, 65, 66, 67, 68, 69, 70, 71, 72, 73, 74, J 4]))
 (.lt (.bin .eql 3 false true) [66, J 1] 101 none
 (.ite 101
 (.done (.tup [J 0, 65, 66, 67, 68, 69, 70, 71, 72, 73, 74, J 4]))
 (.done (.tup [J 0, 65, 66, 67, 68, 69, 70, 71, 72, 73, 92, J 0]))))))
 (.lt (.bin .eql 3 false true) [65, J 15] 100 none
 (.ite 100
 (.lt (.bin .eql 3 false true) [98, J 1] 101 none
 (.call 92 [101] 102 [none]
 (.done (.tup [J 0, 65, J 1, 67, 68, 69, 70, 71, 72, 73, 92, 102]))))
 (.lt (.bin .eql 3 false true) [65, J 16] 101 none
 (.ite 101
 (.lt (.bin .neq 3 false true) [98, J 1] 102 none
 (.call 92 [102] 103 [none]
 (.done (.tup [J 0, 65, 98, 67, 68, 69, 70, 71, 72, 73, 92, 103]))))
 (.lt (.bin .geq 3 false true) [65, J 4] 102 none
 (.ite 102
 (.lt (.bin .leq 3 false true) [65, J 12] 103 none
 (.ite 103
 (.lt .inb [92, J 0] 104 none
 (.lt (.ldx 40 10 0) [92, 104] 105 (some 10)
 (.lt .inb [92, J 1] 115 none
 (.lt (.ldx 3 10 1) [92, 115] 116 none
 (.call 89 [.agg [105, 106, 107, 108, 109, 110, 111, 112, 113, 114], 116] 117 [(some 10)]
 (.lt .inb [92, J 1] 127 none
 (.lt (.ldx 40 10 0) [92, 127] 128 (some 10)
 (.lt .inb [92, J 0] 138 none
 (.lt (.ldx 3 10 1) [92, 138] 139 none
 (.call 89 [.agg [128, 129, 130, 131, 132, 133, 134, 135, 136, 137], 139] 140 [(some 10)]
 (.lt .inb [92, J 0] 150 none
 (.lt (.stx 40 10 0) [92, 150, .agg [117, 118, 119, 120, 121, 122, 123, 124, 125, 126]] 151 none
 (.lt .inb [92, J 1] 152 none
 (.lt (.stx 40 10 0) [151, 152, .agg [140, 141, 142, 143, 144, 145, 146, 147, 148, 149]] 153 none
 (.lt .inb [92, J 0] 154 none
 (.lt (.ldx 3 10 1) [153, 154] 155 none
 (.lt .inb [92, J 1] 156 none
 (.lt (.ldx 3 10 1) [153, 156] 157 none
 (.lt (.bin .eql 3 false false) [155, 157] 158 none
 (.lt (.bin .eql 3 false true) [65, J 4] 159 none
 (.ite 159
 (.ite 158
 (.lt (.bin .neq 3 false true) [155, J 1] 160 none
 (.call 92 [160] 161 [none]
 (.chk (.same 92 153)
 (.done (.tup [J 0, 65, 155, 67, 68, 69, 70, 71, 72, 73, 153, 161])))))
 (.call 92 [.bool false] 160 [none]
 (.chk (.same 92 153)
 (.done (.tup [J 0, 65, 155, 67, 68, 69, 70, 71, 72, 73, 153, 160])))))
 (.lt (.bin .eql 3 false true) [65, J 5] 160 none
 (.ite 160
 (.ite 158
 (.lt (.bin .neq 3 false true) [155, J 1] 161 none
 (.call 92 [161] 162 [none]
 (.chk (.same 92 153)
 (.done (.tup [J 0, 65, 155, 67, 68, 69, 70, 71, 72, 73, 153, 162])))))
 (.call 92 [.bool false] 161 [none]
 (.chk (.same 92 153)
 (.done (.tup [J 0, 65, 155, 67, 68, 69, 70, 71, 72, 73, 153, 161])))))
 (.lt (.bin .eql 3 false true) [65, J 6] 161 none
 (.ite 161
 (.ite 158
 (.lt (.bin .neq 3 false true) [155, J 1] 162 none
 (.call 92 [162] 163 [none]
 (.chk (.same 92 153)
 (.done (.tup [J 0, 65, 155, 67, 68, 69, 70, 71, 72, 73, 153, 163])))))
 (.call 92 [.bool false] 162 [none]
 (.chk (.same 92 153)
 (.done (.tup [J 0, 65, 155, 67, 68, 69, 70, 71, 72, 73, 153, 162])))))
 (.lt (.bin .eql 3 false true) [65, J 7] 162 none
 (.ite 162
 (.ite 158
 (.lt (.bin .neq 3 false true) [155, J 1] 163 none
 (.call 92 [163] 164 [none]
 (.chk (.same 92 153)
 (.done (.tup [J 0, 65, 155, 67, 68, 69, 70, 71, 72, 73, 153, 164])))))
 (.call 92 [.bool false] 163 [none]
 (.chk (.same 92 153)
 (.done (.tup [J 0, 65, 155, 67, 68, 69, 70, 71, 72, 73, 153, 163])))))
 (.lt (.bin .eql 3 false true) [65, J 8] 163 none
 (.ite 163
 (.ite 158
 (.call 45 [155] 164 [none]
 (.call 92 [164] 165 [none]
 (.chk (.same 92 153)
 (.done (.tup [J 0, 65, 155, 67, 68, 69, 70, 71, 72, 73, 153, 165])))))
 (.call 92 [.bool false] 164 [none]
 (.chk (.same 92 153)
 (.done (.tup [J 0, 65, 155, 67, 68, 69, 70, 71, 72, 73, 153, 164])))))
 (.lt (.bin .eql 3 false true) [65, J 9] 164 none
 (.ite 164
 (.call 92 [158] 165 [none]
 (.chk (.same 92 153)
 (.done (.tup [J 0, 65, J 1, 67, 68, 69, 70, 71, 72, 73, 153, 165]))))
 (.lt (.bin .eql 3 false true) [65, J 10] 165 none
 (.ite 165
 (.call 92 [158] 166 [none]
 (.chk (.same 92 153)
 (.done (.tup [J 0, 65, J 1, 67, 68, 69, 70, 71, 72, 73, 153, 166]))))
 (.lt (.bin .eql 3 false true) [65, J 11] 166 none
 (.ite 166
 (.ite 158
 (.lt (.bin .neq 3 false true) [155, J 1] 167 none
 (.call 92 [167] 168 [none]
 (.chk (.same 92 153)
 (.done (.tup [J 0, 65, J 1, 67, 68, 69, 70, 71, 72, 73, 153, 168])))))
 (.call 92 [.bool false] 167 [none]
 (.chk (.same 92 153)
 (.done (.tup [J 0, 65, J 1, 67, 68, 69, 70, 71, 72, 73, 153, 167])))))
 (.lt (.bin .eql 3 false true) [65, J 12] 167 none
 (.ite 167
 (.ite 158
 (.lt (.bin .neq 3 false true) [155, J 1] 168 none
 (.call 92 [168] 169 [none]
 (.chk (.same 92 153)
 (.done (.tup [J 0, 65, J 1, 67, 68, 69, 70, 71, 72, 73, 153, 169])))))
 (.call 92 [.bool false] 168 [none]
 (.chk (.same 92 153)
 (.done (.tup [J 0, 65, J 1, 67, 68, 69, 70, 71, 72, 73, 153, 168])))))
 (.ite 158
 (.lt (.bin .eql 3 false true) [155, J 1] 168 none
 (.call 92 [168] 169 [none]
 (.chk (.same 92 153)
 (.done (.tup [J 0, 65, J 1, 67, 68, 69, 70, 71, 72, 73, 153, 169])))))
 (.call 92 [.bool false] 168 [none]
 (.chk (.same 92 153)
 (.done (.tup [J 0, 65, J 1, 67, 68, 69, 70, 71, 72, 73, 153, 168]))))))))))))))))))))))))))))))))))))))))))
 (.lt .inb [92, J 1] 104 none
 (.lt (.ldx 3 10 1) [92, 104] 105 none
 (.lt (.bin .eql 3 false false) [98, 105] 106 none
 (.lt (.bin .eql 3 false true) [65, J 4] 107 none
 (.ite 107
 (.ite 106
 (.lt (.bin .neq 3 false true) [98, J 1] 108 none
 (.call 92 [108] 109 [none]
 (.done (.tup [J 0, 65, 98, 67, 68, 69, 70, 71, 72, 73, 92, 109]))))
 (.call 92 [.bool false] 108 [none]
 (.done (.tup [J 0, 65, 98, 67, 68, 69, 70, 71, 72, 73, 92, 108]))))
 (.lt (.bin .eql 3 false true) [65, J 5] 108 none
 (.ite 108
 (.ite 106
 (.lt (.bin .neq 3 false true) [98, J 1] 109 none
 (.call 92 [109] 110 [none]
 (.done (.tup [J 0, 65, 98, 67, 68, 69, 70, 71, 72, 73, 92, 110]))))
 (.call 92 [.bool false] 109 [none]
 (.done (.tup [J 0, 65, 98, 67, 68, 69, 70, 71, 72, 73, 92, 109]))))
 (.lt (.bin .eql 3 false true) [65, J 6] 109 none
 (.ite 109
 (.ite 106
 (.lt (.bin .neq 3 false true) [98, J 1] 110 none
 (.call 92 [110] 111 [none]
 (.done (.tup [J 0, 65, 98, 67, 68, 69, 70, 71, 72, 73, 92, 111]))))
 (.call 92 [.bool false] 110 [none]
 (.done (.tup [J 0, 65, 98, 67, 68, 69, 70, 71, 72, 73, 92, 110]))))
 (.lt (.bin .eql 3 false true) [65, J 7] 110 none
 (.ite 110
 (.ite 106
 (.lt (.bin .neq 3 false true) [98, J 1] 111 none
 (.call 92 [111] 112 [none]
 (.done (.tup [J 0, 65, 98, 67, 68, 69, 70, 71, 72, 73, 92, 112]))))
 (.call 92 [.bool false] 111 [none]
 (.done (.tup [J 0, 65, 98, 67, 68, 69, 70, 71, 72, 73, 92, 111]))))
 (.lt (.bin .eql 3 false true) [65, J 8] 111 none
 (.ite 111
 (.ite 106
 (.call 45 [98] 112 [none]
 (.call 92 [112] 113 [none]
 (.done (.tup [J 0, 65, 98, 67, 68, 69, 70, 71, 72, 73, 92, 113]))))
 (.call 92 [.bool false] 112 [none]
 (.done (.tup [J 0, 65, 98, 67, 68, 69, 70, 71, 72, 73, 92, 112]))))
 (.lt (.bin .eql 3 false true) [65, J 9] 112 none
 (.ite 112
 (.call 92 [106] 113 [none]
 (.done (.tup [J 0, 65, J 1, 67, 68, 69, 70, 71, 72, 73, 92, 113])))
 (.lt (.bin .eql 3 false true) [65, J 10] 113 none
 (.ite 113
 (.call 92 [106] 114 [none]
 (.done (.tup [J 0, 65, J 1, 67, 68, 69, 70, 71, 72, 73, 92, 114])))
 (.lt (.bin .eql 3 false true) [65, J 11] 114 none
 (.ite 114
 (.ite 106
 (.lt (.bin .neq 3 false true) [98, J 1] 115 none
 (.call 92 [115] 116 [none]
 (.done (.tup [J 0, 65, J 1, 67, 68, 69, 70, 71, 72, 73, 92, 116]))))
 (.call 92 [.bool false] 115 [none]
 (.done (.tup [J 0, 65, J 1, 67, 68, 69, 70, 71, 72, 73, 92, 115]))))
 (.lt (.bin .eql 3 false true) [65, J 12] 115 none
 (.ite 115
 (.ite 106
 (.lt (.bin .neq 3 false true) [98, J 1] 116 none
 (.call 92 [116] 117 [none]
 (.done (.tup [J 0, 65, J 1, 67, 68, 69, 70, 71, 72, 73, 92, 117]))))
 (.call 92 [.bool false] 116 [none]
 (.done (.tup [J 0, 65, J 1, 67, 68, 69, 70, 71, 72, 73, 92, 116]))))
 (.ite 106
 (.lt (.bin .eql 3 false true) [98, J 1] 116 none
 (.call 92 [116] 117 [none]
 (.done (.tup [J 0, 65, J 1, 67, 68, 69, 70, 71, 72, 73, 92, 117]))))
 (.call 92 [.bool false] 116 [none]
 (.done (.tup [J 0, 65, J 1, 67, 68, 69, 70, 71, 72, 73, 92, 116])))))))))))))))))))))))))))
 (.lt .inb [92, J 1] 103 none
 (.lt (.ldx 3 10 1) [92, 103] 104 none
 (.lt (.bin .eql 3 false false) [98, 104] 105 none
 (.lt (.bin .eql 3 false true) [65, J 4] 106 none
 (.ite 106
 (.ite 105
 (.lt (.bin .neq 3 false true) [98, J 1] 107 none
 (.call 92 [107] 108 [none]
 (.done (.tup [J 0, 65, 98, 67, 68, 69, 70, 71, 72, 73, 92, 108]))))
 (.call 92 [.bool false] 107 [none]
 (.done (.tup [J 0, 65, 98, 67, 68, 69, 70, 71, 72, 73, 92, 107]))))
 (.lt (.bin .eql 3 false true) [65, J 5] 107 none
 (.ite 107
 (.ite 105
 (.lt (.bin .neq 3 false true) [98, J 1] 108 none
 (.call 92 [108] 109 [none]
 (.done (.tup [J 0, 65, 98, 67, 68, 69, 70, 71, 72, 73, 92, 109]))))
 (.call 92 [.bool false] 108 [none]
 (.done (.tup [J 0, 65, 98, 67, 68, 69, 70, 71, 72, 73, 92, 108]))))
 (.lt (.bin .eql 3 false true) [65, J 6] 108 none
 (.ite 108
 (.ite 105
 (.lt (.bin .neq 3 false true) [98, J 1] 109 none
 (.call 92 [109] 110 [none]
 (.done (.tup [J 0, 65, 98, 67, 68, 69, 70, 71, 72, 73, 92, 110]))))
 (.call 92 [.bool false] 109 [none]
 (.done (.tup [J 0, 65, 98, 67, 68, 69, 70, 71, 72, 73, 92, 109]))))
 (.lt (.bin .eql 3 false true) [65, J 7] 109 none
 (.ite 109
 (.ite 105
 (.lt (.bin .neq 3 false true) [98, J 1] 110 none
 (.call 92 [110] 111 [none]
 (.done (.tup [J 0, 65, 98, 67, 68, 69, 70, 71, 72, 73, 92, 111]))))
 (.call 92 [.bool false] 110 [none]
 (.done (.tup [J 0, 65, 98, 67, 68, 69, 70, 71, 72, 73, 92, 110]))))
 (.lt (.bin .eql 3 false true) [65, J 8] 110 none
 (.ite 110
 (.ite 105
 (.call 45 [98] 111 [none]
 (.call 92 [111] 112 [none]
 (.done (.tup [J 0, 65, 98, 67, 68, 69, 70, 71, 72, 73, 92, 112]))))
 (.call 92 [.bool false] 111 [none]
 (.done (.tup [J 0, 65, 98, 67, 68, 69, 70, 71, 72, 73, 92, 111]))))
 (.lt (.bin .eql 3 false true) [65, J 9] 111 none
 (.ite 111
 (.call 92 [105] 112 [none]
 (.done (.tup [J 0, 65, J 1, 67, 68, 69, 70, 71, 72, 73, 92, 112])))
 (.lt (.bin .eql 3 false true) [65, J 10] 112 none
 (.ite 112
 (.call 92 [105] 113 [none]
 (.done (.tup [J 0, 65, J 1, 67, 68, 69, 70, 71, 72, 73, 92, 113])))
 (.lt (.bin .eql 3 false true) [65, J 11] 113 none
 (.ite 113
 (.ite 105
 (.lt (.bin .neq 3 false true) [98, J 1] 114 none
 (.call 92 [114] 115 [none]
 (.done (.tup [J 0, 65, J 1, 67, 68, 69, 70, 71, 72, 73, 92, 115]))))
 (.call 92 [.bool false] 114 [none]
 (.done (.tup [J 0, 65, J 1, 67, 68, 69, 70, 71, 72, 73, 92, 114]))))
 (.lt (.bin .eql 3 false true) [65, J 12] 114 none
 (.ite 114
 (.ite 105
 (.lt (.bin .neq 3 false true) [98, J 1] 115 none
 (.call 92 [115] 116 [none]
 (.done (.tup [J 0, 65, J 1, 67, 68, 69, 70, 71, 72, 73, 92, 116]))))
 (.call 92 [.bool false] 115 [none]
 (.done (.tup [J 0, 65, J 1, 67, 68, 69, 70, 71, 72, 73, 92, 115]))))
 (.ite 105
 (.lt (.bin .eql 3 false true) [98, J 1] 115 none
 (.call 92 [115] 116 [none]
 (.done (.tup [J 0, 65, J 1, 67, 68, 69, 70, 71, 72, 73, 92, 116]))))
 (.call 92 [.bool false] 115 [none]
 (.done (.tup [J 0, 65, J 1, 67, 68, 69, 70, 71, 72, 73, 92, 115]))))))))))))))))))))))))))))))))))))))))
 .nil)))))))
 (.loop 78 0 [.nsl, J 0]
 (.cons 2
 (.lt (.len 38) [74] 80 none
 (.lt (.bin .lss 3 false false) [79, 80] 81 none
 (.ite 81
 (.lt (.iaddr 38) [74, 79] 82 none
 (.lt (.load 40) [82] 83 (some 10)
 (.callF 80 ft80 [64, 83, 84, 85, 86, 87, 88, 89, 90, 91, 92] 93
 (.cons 11
 (.lt (.bin .neq 31 false true) [114, J 0] 115 none
 (.ite 115
 (.done (.tup [J 0, 65, 66, 67, 68, 69, 70, 71, 72, 73, 74, 114]))
 (.lt (.app 10 112) [78, .agg [104, 105, 106, 107, 108, 109, 110, 111, 112, 113]] 116 none
 (.lt (.bin .add 3 false true) [79, J 1] 117 none
 (.again 0 0 [116, 117])))))
 .nil))))
 (.lt (.bin .eql 3 false true) [65, J 3] 82 none
 (.ite 82
 (.callF 91 ft91 [64, 65, 66, 67, 68, 69, 70, 71, 72, 73, 74, 78] 83
 (.cons 11
 (.done (.tup [J 0, 95, 96, 97, 98, 99, 100, 101, 102, 103, 104, 105]))
 .nil))
 (.lt .inb [78, J 0] 83 none
 (.lt (.ldx 3 10 1) [78, 83] 84 none
 (.lt (.bin .eql 3 false true) [65, J 17] 85 none
 (.ite 85
 (.lt (.bin .eql 3 false true) [84, J 1] 86 none
 (.ite 86
 (.done (.tup [J 0, 65, 66, 67, 68, 69, 70, 71, 72, 73, 74, J 4]))
 (.lt (.bin .eql 3 false true) [66, J 1] 87 none
 (.ite 87
 (.done (.tup [J 0, 65, 66, 67, 68, 69, 70, 71, 72, 73, 74, J 4]))
 (.done (.tup [J 0, 65, 66, 67, 68, 69, 70, 71, 72, 73, 78, J 0]))))))
 (.lt (.bin .eql 3 false true) [65, J 15] 86 none
 (.ite 86
 (.lt (.bin .eql 3 false true) [84, J 1] 87 none
 (.call 92 [87] 88 [none]
 (.done (.tup [J 0, 65, J 1, 67, 68, 69, 70, 71, 72, 73, 78, 88]))))
 (.lt (.bin .eql 3 false true) [65, J 16] 87 none
 (.ite 87
 (.lt (.bin .neq 3 false true) [84, J 1] 88 none
 (.call 92 [88] 89 [none]
 (.done (.tup [J 0, 65, 84, 67, 68, 69, 70, 71, 72, 73, 78, 89]))))
 (.lt (.bin .geq 3 false true) [65, J 4] 88 none
 (.ite 88
 (.lt (.bin .leq 3 false true) [65, J 12] 89 none
 (.ite 89
 (.lt .inb [78, J 0] 90 none
 (.lt (.ldx 40 10 0) [78, 90] 91 (some 10)
 (.lt .inb [78, J 1] 101 none
 (.lt (.ldx 3 10 1) [78, 101] 102 none
 (.call 89 [.agg [91, 92, 93, 94, 95, 96, 97, 98, 99, 100], 102] 103 [(some 10)]
 (.lt .inb [78, J 1] 113 none
 (.lt (.ldx 40 10 0) [78, 113] 114 (some 10)
 (.lt .inb [78, J 0] 124 none
 (.lt (.ldx 3 10 1) [78, 124] 125 none
 (.call 89 [.agg [114, 115, 116, 117, 118, 119, 120, 121, 122, 123], 125] 126 [(some 10)]
 (.lt .inb [78, J 0] 136 none
 (.lt (.stx 40 10 0) [78, 136, .agg [103, 104, 105, 106, 107, 108, 109, 110, 111, 112]] 137 none
 (.lt .inb [78, J 1] 138 none
 (.lt (.stx 40 10 0) [137, 138, .agg [126, 127, 128, 129, 130, 131, 132, 133, 134, 135]] 139 none
 (.lt .inb [78, J 0] 140 none
 (.lt (.ldx 3 10 1) [139, 140] 141 none
 (.lt .inb [78, J 1] 142 none
 (.lt (.ldx 3 10 1) [139, 142] 143 none
 (.lt (.bin .eql 3 false false) [141, 143] 144 none
 (.lt (.bin .eql 3 false true) [65, J 4] 145 none
 (.ite 145
 (.ite 144
 (.lt (.bin .neq 3 false true) [141, J 1] 146 none
 (.call 92 [146] 147 [none]
 (.chk (.same 78 139)
 (.done (.tup [J 0, 65, 141, 67, 68, 69, 70, 71, 72, 73, 139, 147])))))
 (.call 92 [.bool false] 146 [none]
 (.chk (.same 78 139)
 (.done (.tup [J 0, 65, 141, 67, 68, 69, 70, 71, 72, 73, 139, 146])))))
 (.lt (.bin .eql 3 false true) [65, J 5] 146 none
 (.ite 146
 (.ite 144
 (.lt (.bin .neq 3 false true) [141, J 1] 147 none
 (.call 92 [147] 148 [none]
 (.chk (.same 78 139)
 (.done (.tup [J 0, 65, 141, 67, 68, 69, 70, 71, 72, 73, 139, 148])))))
 (.call 92 [.bool false] 147 [none]
 (.chk (.same 78 139)
 (.done (.tup [J 0, 65, 141, 67, 68, 69, 70, 71, 72, 73, 139, 147])))))
 (.lt (.bin .eql 3 false true) [65, J 6] 147 none
 (.ite 147
 (.ite 144
 (.lt (.bin .neq 3 false true) [141, J 1] 148 none
 (.call 92 [148] 149 [none]
 (.chk (.same 78 139)
 (.done (.tup [J 0, 65, 141, 67, 68, 69, 70, 71, 72, 73, 139, 149])))))
 (.call 92 [.bool false] 148 [none]
 (.chk (.same 78 139)
 (.done (.tup [J 0, 65, 141, 67, 68, 69, 70, 71, 72, 73, 139, 148])))))
 (.lt (.bin .eql 3 false true) [65, J 7] 148 none
 (.ite 148
 (.ite 144
 (.lt (.bin .neq 3 false true) [141, J 1] 149 none
 (.call 92 [149] 150 [none]
 (.chk (.same 78 139)
 (.done (.tup [J 0, 65, 141, 67, 68, 69, 70, 71, 72, 73, 139, 150])))))
 (.call 92 [.bool false] 149 [none]
 (.chk (.same 78 139)
 (.done (.tup [J 0, 65, 141, 67, 68, 69, 70, 71, 72, 73, 139, 149])))))
 (.lt (.bin .eql 3 false true) [65, J 8] 149 none
 (.ite 149
 (.ite 144
 (.call 45 [141] 150 [none]
 (.call 92 [150] 151 [none]
 (.chk (.same 78 139)
 (.done (.tup [J 0, 65, 141, 67, 68, 69, 70, 71, 72, 73, 139, 151])))))
 (.call 92 [.bool false] 150 [none]
 (.chk (.same 78 139)
 (.done (.tup [J 0, 65, 141, 67, 68, 69, 70, 71, 72, 73, 139, 150])))))
 (.lt (.bin .eql 3 false true) [65, J 9] 150 none
 (.ite 150
 (.call 92 [144] 151 [none]
 (.chk (.same 78 139)
 (.done (.tup [J 0, 65, J 1, 67, 68, 69, 70, 71, 72, 73, 139, 151]))))
 (.lt (.bin .eql 3 false true) [65, J 10] 151 none
 (.ite 151
 (.call 92 [144] 152 [none]
 (.chk (.same 78 139)
 (.done (.tup [J 0, 65, J 1, 67, 68, 69, 70, 71, 72, 73, 139, 152]))))
 (.lt (.bin .eql 3 false true) [65, J 11] 152 none
 (.ite 152
 (.ite 144
 (.lt (.bin .neq 3 false true) [141, J 1] 153 none
 (.call 92 [153] 154 [none]
 (.chk (.same 78 139)
 (.done (.tup [J 0, 65, J 1, 67, 68, 69, 70, 71, 72, 73, 139, 154])))))
 (.call 92 [.bool false] 153 [none]
 (.chk (.same 78 139)
 (.done (.tup [J 0, 65, J 1, 67, 68, 69, 70, 71, 72, 73, 139, 153])))))
 (.lt (.bin .eql 3 false true) [65, J 12] 153 none
 (.ite 153
 (.ite 144
 (.lt (.bin .neq 3 false true) [141, J 1] 154 none
 (.call 92 [154] 155 [none]
 (.chk (.same 78 139)
 (.done (.tup [J 0, 65, J 1, 67, 68, 69, 70, 71, 72, 73, 139, 155])))))
 (.call 92 [.bool false] 154 [none]
 (.chk (.same 78 139)
 (.done (.tup [J 0, 65, J 1, 67, 68, 69, 70, 71, 72, 73, 139, 154])))))
 (.ite 144
 (.lt (.bin .eql 3 false true) [141, J 1] 154 none
 (.call 92 [154] 155 [none]
 (.chk (.same 78 139)
 (.done (.tup [J 0, 65, J 1, 67, 68, 69, 70, 71, 72, 73, 139, 155])))))
 (.call 92 [.bool false] 154 [none]
 (.chk (.same 78 139)
 (.done (.tup [J 0, 65, J 1, 67, 68, 69, 70, 71, 72, 73, 139, 154]))))))))))))))))))))))))))))))))))))))))))
 (.lt .inb [78, J 1] 90 none
 (.lt (.ldx 3 10 1) [78, 90] 91 none
 (.lt (.bin .eql 3 false false) [84, 91] 92 none
 (.lt (.bin .eql 3 false true) [65, J 4] 93 none
 (.ite 93
 (.ite 92
 (.lt (.bin .neq 3 false true) [84, J 1] 94 none
 (.call 92 [94] 95 [none]
 (.done (.tup [J 0, 65, 84, 67, 68, 69, 70, 71, 72, 73, 78, 95]))))
 (.call 92 [.bool false] 94 [none]
 (.done (.tup [J 0, 65, 84, 67, 68, 69, 70, 71, 72, 73, 78, 94]))))
 (.lt (.bin .eql 3 false true) [65, J 5] 94 none
 (.ite 94
 (.ite 92
 (.lt (.bin .neq 3 false true) [84, J 1] 95 none
 (.call 92 [95] 96 [none]
 (.done (.tup [J 0, 65, 84, 67, 68, 69, 70, 71, 72, 73, 78, 96]))))
 (.call 92 [.bool false] 95 [none]
 (.done (.tup [J 0, 65, 84, 67, 68, 69, 70, 71, 72, 73, 78, 95]))))
 (.lt (.bin .eql 3 false true) [65, J 6] 95 none
 (.ite 95
 (.ite 92
 (.lt (.bin .neq 3 false true) [84, J 1] 96 none
 (.call 92 [96] 97 [none]
 (.done (.tup [J 0, 65, 84, 67, 68, 69, 70, 71, 72, 73, 78, 97]))))
 (.call 92 [.bool false] 96 [none]
 (.done (.tup [J 0, 65, 84, 67, 68, 69, 70, 71, 72, 73, 78, 96]))))
 (.lt (.bin .eql 3 false true) [65, J 7] 96 none
 (.ite 96
 (.ite 92
 (.lt (.bin .neq 3 false true) [84, J 1] 97 none
 (.call 92 [97] 98 [none]
 (.done (.tup [J 0, 65, 84, 67, 68, 69, 70, 71, 72, 73, 78, 98]))))
 (.call 92 [.bool false] 97 [none]
 (.done (.tup [J 0, 65, 84, 67, 68, 69, 70, 71, 72, 73, 78, 97]))))
 (.lt (.bin .eql 3 false true) [65, J 8] 97 none
 (.ite 97
 (.ite 92
 (.call 45 [84] 98 [none]
 (.call 92 [98] 99 [none]
 (.done (.tup [J 0, 65, 84, 67, 68, 69, 70, 71, 72, 73, 78, 99]))))
 (.call 92 [.bool false] 98 [none]
 (.done (.tup [J 0, 65, 84, 67, 68, 69, 70, 71, 72, 73, 78, 98]))))
 (.lt (.bin .eql 3 false true) [65, J 9] 98 none
 (.ite 98
 (.call 92 [92] 99 [none]
 (.done (.tup [J 0, 65, J 1, 67, 68, 69, 70, 71, 72, 73, 78, 99])))
 (.lt (.bin .eql 3 false true) [65, J 10] 99 none
 (.ite 99
 (.call 92 [92] 100 [none]
 (.done (.tup [J 0, 65, J 1, 67, 68, 69, 70, 71, 72, 73, 78, 100])))
 (.lt (.bin .eql 3 false true) [65, J 11] 100 none
 (.ite 100
 (.ite 92
 (.lt (.bin .neq 3 false true) [84, J 1] 101 none
 (.call 92 [101] 102 [none]
 (.done (.tup [J 0, 65, J 1, 67, 68, 69, 70, 71, 72, 73, 78, 102]))))
 (.call 92 [.bool false] 101 [none]
 (.done (.tup [J 0, 65, J 1, 67, 68, 69, 70, 71, 72, 73, 78, 101]))))
 (.lt (.bin .eql 3 false true) [65, J 12] 101 none
 (.ite 101
 (.ite 92
 (.lt (.bin .neq 3 false true) [84, J 1] 102 none
 (.call 92 [102] 103 [none]
 (.done (.tup [J 0, 65, J 1, 67, 68, 69, 70, 71, 72, 73, 78, 103]))))
 (.call 92 [.bool false] 102 [none]
 (.done (.tup [J 0, 65, J 1, 67, 68, 69, 70, 71, 72, 73, 78, 102]))))
 (.ite 92
 (.lt (.bin .eql 3 false true) [84, J 1] 102 none
 (.call 92 [102] 103 [none]
 (.done (.tup [J 0, 65, J 1, 67, 68, 69, 70, 71, 72, 73, 78, 103]))))
 (.call 92 [.bool false] 102 [none]
 (.done (.tup [J 0, 65, J 1, 67, 68, 69, 70, 71, 72, 73, 78, 102])))))))))))))))))))))))))))
 (.lt .inb [78, J 1] 89 none
 (.lt (.ldx 3 10 1) [78, 89] 90 none
 (.lt (.bin .eql 3 false false) [84, 90] 91 none
 (.lt (.bin .eql 3 false true) [65, J 4] 92 none
 (.ite 92
 (.ite 91
 (.lt (.bin .neq 3 false true) [84, J 1] 93 none
 (.call 92 [93] 94 [none]
 (.done (.tup [J 0, 65, 84, 67, 68, 69, 70, 71, 72, 73, 78, 94]))))
 (.call 92 [.bool false] 93 [none]
 (.done (.tup [J 0, 65, 84, 67, 68, 69, 70, 71, 72, 73, 78, 93]))))
 (.lt (.bin .eql 3 false true) [65, J 5] 93 none
 (.ite 93
 (.ite 91
 (.lt (.bin .neq 3 false true) [84, J 1] 94 none
 (.call 92 [94] 95 [none]
 (.done (.tup [J 0, 65, 84, 67, 68, 69, 70, 71, 72, 73, 78, 95]))))
 (.call 92 [.bool false] 94 [none]
 (.done (.tup [J 0, 65, 84, 67, 68, 69, 70, 71, 72, 73, 78, 94]))))
 (.lt (.bin .eql 3 false true) [65, J 6] 94 none
 (.ite 94
 (.ite 91
 (.lt (.bin .neq 3 false true) [84, J 1] 95 none
 (.call 92 [95] 96 [none]
 (.done (.tup [J 0, 65, 84, 67, 68, 69, 70, 71, 72, 73, 78, 96]))))
 (.call 92 [.bool false] 95 [none]
 (.done (.tup [J 0, 65, 84, 67, 68, 69, 70, 71, 72, 73, 78, 95]))))
 (.lt (.bin .eql 3 false true) [65, J 7] 95 none
 (.ite 95
 (.ite 91
 (.lt (.bin .neq 3 false true) [84, J 1] 96 none
 (.call 92 [96] 97 [none]
 (.done (.tup [J 0, 65, 84, 67, 68, 69, 70, 71, 72, 73, 78, 97]))))
 (.call 92 [.bool false] 96 [none]
 (.done (.tup [J 0, 65, 84, 67, 68, 69, 70, 71, 72, 73, 78, 96]))))
 (.lt (.bin .eql 3 false true) [65, J 8] 96 none
 (.ite 96
 (.ite 91
 (.call 45 [84] 97 [none]
 (.call 92 [97] 98 [none]
 (.done (.tup [J 0, 65, 84, 67, 68, 69, 70, 71, 72, 73, 78, 98]))))
 (.call 92 [.bool false] 97 [none]
 (.done (.tup [J 0, 65, 84, 67, 68, 69, 70, 71, 72, 73, 78, 97]))))
 (.lt (.bin .eql 3 false true) [65, J 9] 97 none
 (.ite 97
 (.call 92 [91] 98 [none]
 (.done (.tup [J 0, 65, J 1, 67, 68, 69, 70, 71, 72, 73, 78, 98])))
 (.lt (.bin .eql 3 false true) [65, J 10] 98 none
 (.ite 98
 (.call 92 [91] 99 [none]
 (.done (.tup [J 0, 65, J 1, 67, 68, 69, 70, 71, 72, 73, 78, 99])))
 (.lt (.bin .eql 3 false true) [65, J 11] 99 none
 (.ite 99
 (.ite 91
 (.lt (.bin .neq 3 false true) [84, J 1] 100 none
 (.call 92 [100] 101 [none]
 (.done (.tup [J 0, 65, J 1, 67, 68, 69, 70, 71, 72, 73, 78, 101]))))
 (.call 92 [.bool false] 100 [none]
 (.done (.tup [J 0, 65, J 1, 67, 68, 69, 70, 71, 72, 73, 78, 100]))))
 (.lt (.bin .eql 3 false true) [65, J 12] 100 none
 (.ite 100
 (.ite 91
 (.lt (.bin .neq 3 false true) [84, J 1] 101 none
 (.call 92 [101] 102 [none]
 (.done (.tup [J 0, 65, J 1, 67, 68, 69, 70, 71, 72, 73, 78, 102]))))
 (.call 92 [.bool false] 101 [none]
 (.done (.tup [J 0, 65, J 1, 67, 68, 69, 70, 71, 72, 73, 78, 101]))))
 (.ite 91
 (.lt (.bin .eql 3 false true) [84, J 1] 101 none
 (.call 92 [101] 102 [none]
 (.done (.tup [J 0, 65, J 1, 67, 68, 69, 70, 71, 72, 73, 78, 102]))))
 (.call 92 [.bool false] 101 [none]
 (.done (.tup [J 0, 65, J 1, 67, 68, 69, 70, 71, 72, 73, 78, 101]))))))))))))))))))))))))))))))))))))))))
 .nil))))))))
theorem p45 (k : Int) : Pure Try.prog 45 [.int .i64 k] (.bool (decide (k = 2 ∨ k = 3 ∨ k = 4))) := by
 refine pure_shape (sh := [none]) (ls := [.int .i64 k]) (c := c45) (n := 300) (t := t45) mo ov rfl rfl rfl (fun Y _ => known0 _) rfl (by kernel_rfl) fun Y hf hg => ?_
 unfold t45
 (refine it_c rfl rfl (fun h => ?_) (fun h => ?_) <;> simp only [Cmp, Decidable.not_not, Int.not_lt, Int.not_le] at h <;> try (exfalso; first | exact h trivial | omega))
 ·refine VOK_done ?_
  show AV.bool _ = _
  congr 1; symm; simp only [decide_eq_true_eq]; omega
 (refine it_c rfl rfl (fun h => ?_) (fun h => ?_) <;> simp only [Cmp, Decidable.not_not, Int.not_lt, Int.not_le] at h <;> try (exfalso; first | exact h trivial | omega))
 ·refine VOK_done ?_
  show AV.bool _ = _
  congr 1; symm; simp only [decide_eq_true_eq]; omega
 refine VOK_lt (run_eql ..) rfl (VOK_done ?_)
 show AV.bool _ = _
 congr 1
 refine decide_eq_decide.2 ?_
 omega
theorem typed0 {b : Bool} (h : (if b = true then (0 : Int) else 4) = 0) : b = true := by
 cases b with
 | true => rfl
 | false => simp at h
section
variable {P : Program} {Q : AV → Prop} {L : List (Nat → List AV → Prop)} {Y : Sy} {i : Nat} {A B : VT}
theorem it_d {p : Prop} [Decidable p] (h0 : Y.v i = some (.bool (decide p))) (h1 : p → VOK P Q L Y A) (h2 : ¬ p → VOK P Q L Y B) : VOK P Q L Y (.ite i A B) :=
 VOK_ite h0 (fun h => h1 (of_decide_eq_true h)) (fun h => h2 (of_decide_eq_false h))
end
def RE (d : Nat) (x : GX) : Nat → List AV → Prop := fun _ ws => ∃ (y : GX) (e : Int), ws = encX y ++ [.int .i64 e] ∧ (e = 0 → TX d y ∧ y.op = x.op)
theorem finE {d j : Nat} {x y : GX} {e : Int} {hv : List AV} {Y : Sy} {L : List (Nat → List AV → Prop)} (h : denL Y.v hv = encX y ++ [.int .i64 e]) (hw : e = 0 → TX d y ∧ y.op = x.op) : VOK Try.prog (QF (RE d x)) L Y (.done (.tup (.int .i64 (.ofNat j) :: hv))) :=
 VOK_fin (by rw [h]; exact okXn y e) ⟨y, e, h, hw⟩
def RM (x : GX) (k : Int) : Nat → List AV → Prop := fun _ ws => ∃ e : Int, ws = (match x with | .mk op _ nm fd _ _ vk vi vf args => encX (.mk op 2 nm fd 8 4 vk vi vf args)) ++ [.int .i64 e] ∧ (e = 0 → k = 2 ∨ k = 3)
theorem p91 (op kd : Int) (nm fd : List UInt8) (ad n vk vi : Int) (vf : Nat) (args : List GX) (y : GX) (h : nm = [107]) : CF Try.prog 91 ft91 (VARS :: (encX (.mk op kd nm fd ad n vk vi vf args) ++ [encA [y]])) (RM (.mk op kd nm fd ad n vk vi vf [y]) y.kd) := by
 subst h
 obtain ⟨yo, yk, ynm, yfd, yad, yn, yvk, yvi, yvf, ya⟩ := y
 refine cf_tree (c := c91) (n := 300) (t := t91) mo ov rfl (fun Y _ => known0 _) (by kernel_rfl) fun Y hf hg => ?_
 unfold t91
 refine VOK_call k88_107 rfl rfl (VOK_lt rfl rfl (VOK_ite rfl (fun h => by cases h) (fun _ => VOK_lt rfl rfl (VOK_ite rfl (fun _ => ?_) (fun h => by cases h)))))
 refine VOK_lt (r := .vptr (encX (.mk yo yk ynm yfd yad yn yvk yvi yvf ya) ++ encXs [])) rfl (by show okL _ = true; exact encL_ok.okL_join (okX _) (okXs _)) ?_
 refine VOK_lt (r := .vptr [.int .i64 yk, .str ynm, .str yfd, .int .i64 yad, .int .i64 yn, .int .i64 yvk, .int .i64 yvi, .flt .f64 yvf, encA ya]) rfl (by simp only [okC, okL, okA]) (VOK_lt (r := .int .i64 yk) rfl rfl ?_)
 (refine it_c rfl rfl (fun h => ?_) (fun h => ?_) <;> simp only [Cmp, Decidable.not_not, Int.not_lt, Int.not_le] at h <;> try (exfalso; first | exact h trivial | omega))
 ·refine VOK_call (p92 true) rfl rfl (VOK_fin (by show okL (encX (.mk op 2 [107] fd 8 4 vk vi vf [_]) ++ [_]) = true; exact okXn _ _) ⟨_, rfl, fun _ => .inl h⟩)
 ·refine VOK_lt (r := .vptr (encX (.mk yo yk ynm yfd yad yn yvk yvi yvf ya) ++ encXs [])) rfl (by show okL _ = true; exact encL_ok.okL_join (okX _) (okXs _)) ?_
  refine VOK_lt (r := .vptr [.int .i64 yk, .str ynm, .str yfd, .int .i64 yad, .int .i64 yn, .int .i64 yvk, .int .i64 yvi, .flt .f64 yvf, encA ya]) rfl (by simp only [okC, okL, okA]) (VOK_lt (r := .int .i64 yk) rfl rfl ?_)
  refine VOK_lt (run_eql ..) rfl (VOK_call (p92 _) rfl rfl (VOK_fin (by show okL (encX (.mk op 2 [107] fd 8 4 vk vi vf [_]) ++ [_]) = true; exact okXn _ _) ⟨_, rfl, fun h => .inr ?_⟩))
  exact of_decide_eq_true (typed0 h)
theorem run_len38 (l : List GX) : (XOp.len 38).run Try.prog [encA l] = some (.int .i64 (l.length : Int)) := by rw [encA_eq]; exact run_len_sl Try.underlying38 l
theorem run_ia38 (l : List GX) {i : Nat} (h : i < l.length) : (XOp.iaddr 38).run Try.prog [encA l, .int .i64 (i : Int)] = some (.vptr (encL encX (l.drop i))) := by
 rw [encA_eq]; exact run_iaddr_sl (e := 40) (ti := (Try.prog.info? 40).get!) Try.underlying38 (by kernel_rfl) (by kernel_rfl) lenX h .i64
theorem run_ld40 (l : List GX) {i : Nat} (h : i < l.length) : (XOp.load 40).run Try.prog [.vptr (encL encX (l.drop i))] = some (.agg (encX l[i])) :=
 run_load_agg (ti := (Try.prog.info? 40).get!) Try.underlying40 rfl (by kernel_rfl) (by kernel_rfl) lenX h
theorem run_app10 (l : List GX) (s : GX) (hl : l.length ≤ 100000) : (XOp.app 10 112).run Try.prog [encA l, .agg (encX s)] = some (encA (l ++ [s])) := by
 rw [encA_eq, encA_eq]
 exact run_app_sl lenX (by decide) (by decide) l s (by omega)
theorem run_stx40 (l : List GX) {i : Nat} (hi : i < l.length) (y : GX) (k : IntKind) : (XOp.stx 40 10 0).run Try.prog [encA l, .int k (i : Int), .agg (encX y)] = some (encA (l.set i y)) := by
 rw [encA_eq, encA_eq]
 exact run_stx (ti := (Try.prog.info? 40).get!) lenX hi (p := []) (q := encX l[i]) (r := []) (xs := encX y) rfl (.inl rfl) (by kernel_rfl) (by rw [lenX]; kernel_rfl) (allOne_ok (okX _)) (by simp) rfl (by rw [lenX, lenX]) (by simp) k
theorem okXe (x : GX) : okL (encX x ++ []) = true := by rw [List.append_nil]; exact okX x
def typ (b : Bool) : Int := if b = true then 0 else 4
theorem typ0 {b : Bool} (h : typ b = 0) : b = true := typed0 h
theorem p92t (b : Bool) : Pure Try.prog 92 [.bool b] (.int .i64 (typ b)) := p92 b
attribute [irreducible] typ
theorem TX1 {d : Nat} {op kd ad n vk vi : Int} {nm fd : List UInt8} {vf : Nat} {y : GX} (hf : Flt4 vf) (hy : TX d y) (ho : op = 15 ∧ kd = 1 ∧ y.kd = 1 ∨ op = 16 ∧ kd = y.kd ∧ y.kd ≠ 1 ∨ op = 17 ∧ 2 ≤ kd ∧ kd ≤ 5 ∧ y.kd ≠ 1) : TX (d + 1) (.mk op kd nm fd ad n vk vi vf [y]) := by
 have hk := TX_kd hy
 refine ⟨.inr (.inl ⟨by omega, rfl⟩), hf, by omega, by omega, ⟨fun h => by omega, fun h => by omega, fun h => by omega, fun h => by omega, fun h => ?_, fun h => ?_, fun h => ?_⟩, fun a ha => by cases List.mem_singleton.1 ha; exact hy⟩
 ·exact ⟨by omega, by show [y.kd] = [1]; congr 1; omega⟩
 ·exact ⟨by show [y.kd] = [kd]; congr 1; omega, by omega, by omega⟩
 ·exact ⟨by omega, by omega, y.kd, rfl, by omega, by omega⟩
theorem TX2 {d : Nat} {op kd ad n vk vi : Int} {nm fd : List UInt8} {vf : Nat} {y z : GX} (hf : Flt4 vf) (hy : TX d y) (hz : TX d z) (ho : 4 ≤ op ∧ op ≤ 14) (hk : y.kd = z.kd) (h1 : op ≤ 8 → kd = y.kd ∧ y.kd ≠ 1) (h2 : 9 ≤ op → kd = 1) (h3 : op = 8 → y.kd ≠ 5) (h4 : op = 11 ∨ op = 12 → y.kd ≠ 1) (h5 : 13 ≤ op → y.kd = 1) : TX (d + 1) (.mk op kd nm fd ad n vk vi vf [y, z]) := by
 have hy1 := TX_kd hy
 refine ⟨.inr (.inr ⟨ho, rfl⟩), hf, by omega, by omega, ⟨fun h => by omega, fun h => by omega, fun h => by omega, fun h => ?_, fun h => by omega, fun h => by omega, fun h => by omega⟩, fun a ha => by
  rcases List.mem_cons.1 ha with rfl | ha
  ·exact hy
  ·cases List.mem_singleton.1 ha; exact hz⟩
 exact ⟨y.kd, by show [y.kd, z.kd] = _; rw [← hk], hy1.1, hy1.2, h1, h2, h3, h4, h5⟩
theorem p80 : ∀ (d : Nat) (x : GX), WX d x → CF Try.prog 80 ft80 (VARS :: encX x) (RE d x)
 | 0, _, h => h.elim
 | d + 1, .mk op kd nm fd ad n vk vi vf args, hx => by
   obtain ⟨hA, hF, ⟨n1, n2, n3, n4⟩, hW⟩ := hx
   have ih := fun (z : GX) (hz : z ∈ args) => p80 d z (hW z hz)
   have hal : args.length ≤ 2 := by unfold Ari at hA; omega
   refine cf_tree (c := c80) (n := 300) (t := t80) mo ov rfl (fun Y _ => known0 _) (by kernel_rfl) fun Y hf hg => ?_
   unfold t80
   (refine it_c rfl rfl (fun h => ?_) (fun h => ?_) <;> simp only [Cmp, Decidable.not_not, Int.not_lt, Int.not_le] at h <;> try (exfalso; first | exact h trivial | omega))
   ·subst h
    have hl : args = [] := by unfold Ari at hA; exact List.length_eq_zero_iff.1 (by omega)
    subst hl
    refine finE (y := .mk 1 vk nm fd ad n vk vi vf []) rfl (fun _ => ⟨⟨hA, hF, ?_, ?_, ?_, fun a ha => (List.not_mem_nil ha).elim⟩, rfl⟩)
    all_goals obtain ⟨m1, m2, m3, m4, m5, m6⟩ := n1 rfl
    ·omega
    ·omega
    ·exact ⟨fun _ => ⟨rfl, by omega, by omega, m2, m3, m4, m5, m6⟩, fun h => by omega, fun h => by omega, fun h => by omega, fun h => by omega, fun h => by omega, fun h => by omega⟩
   (refine it_c rfl rfl (fun h => ?_) (fun h => ?_) <;> simp only [Cmp, Decidable.not_not, Int.not_lt, Int.not_le] at h <;> try (exfalso; first | exact h trivial | omega))
   ·subst h
    have hl : args = [] := by unfold Ari at hA; exact List.length_eq_zero_iff.1 (by omega)
    subst hl
    refine callF' (p90 2 kd nm fd ad n vk vi vf [] (n2 rfl)) rfl (by show okL (VARS :: encX (.mk 2 kd nm fd ad n vk vi vf [])) = true; rw [okL_cons]; exact okX _) ⟨?_, trivial⟩
    rintro ws ⟨ad1, kd1, rfl, hc⟩
    refine finE (y := .mk 2 kd1 nm fd ad1 n vk vi vf []) rfl (fun _ => ⟨⟨hA, hF, ?_, ?_, ⟨fun h => by omega, fun _ => hc, fun h => by omega, fun h => by omega, fun h => by omega, fun h => by omega, fun h => by omega⟩, fun a ha => (List.not_mem_nil ha).elim⟩, rfl⟩)
    ·simp [cellsL] at hc; omega
    ·simp [cellsL] at hc; omega
   (refine it_c rfl rfl (fun h => ?_) (fun h => ?_) <;> simp only [Cmp, Decidable.not_not, Int.not_lt, Int.not_le] at h <;> try (exfalso; first | exact h trivial | omega))
   ·subst h
    cases n3 rfl
    refine VOK_call k88_107 rfl rfl (VOK_lt rfl rfl (VOK_ite rfl (fun h => by cases h) (fun _ => VOK_lt rfl rfl (VOK_ite rfl (fun h => by cases h) (fun _ => ?_)))))
    refine VOK_loop (ι := List GX × Nat) (fun s => [encA s.1, .int .i64 (s.2 : Int)]) (fun s => s.1.length = s.2 ∧ s.2 ≤ args.length ∧ ∀ a ∈ s.1, TX d a) (fun s => args.length - s.2) ([], 0) ⟨rfl, Nat.zero_le _, fun a ha => (List.not_mem_nil ha).elim⟩ rfl (fun s _ => by simp only [okL, okC, okA]) (fun s s' _ _ h => by simp at h; omega) (fun s hs => ?_)
    obtain ⟨acc, i⟩ := s
    obtain ⟨h1, h2, h3⟩ := hs
    simp only at h1 h2 h3 ⊢
    refine VOK_lt (run_len38 args) rfl ?_
    (refine it_c rfl rfl (fun h => ?_) (fun h => ?_) <;> simp only [Cmp, Decidable.not_not, Int.not_lt, Int.not_le] at h <;> try (exfalso; first | exact h trivial | omega))
    ·have hi : i < args.length := by omega
     have hld := run_ld40 args hi
     have hz := ih args[i] (List.getElem_mem hi)
     rcases hzz : args[i] with ⟨zo, zk, znm, zfd, zad, zn, zvk, zvi, zvf, za⟩
     rw [hzz] at hld hz
     refine VOK_lt (run_ia38 args hi) (encL_ok okX _) (VOK_ltN hld rfl (okX _) ?_)
     refine callF' hz rfl (by show okL (VARS :: encX (.mk zo zk znm zfd zad zn zvk zvi zvf za)) = true; rw [okL_cons]; exact okX _) ⟨?_, trivial⟩
     rintro ws ⟨⟨yo, yk, ynm, yfd, yad, yn, yvk, yvi, yvf, ya⟩, e, rfl, hy⟩
     (refine it_c rfl rfl (fun h => ?_) (fun h => ?_) <;> simp only [Cmp, Decidable.not_not, Int.not_lt, Int.not_le] at h <;> try (exfalso; first | exact h trivial | omega))
     ·exact finE (y := .mk _ _ _ _ _ _ _ _ _ _) rfl (fun he => absurd he h)
     ·refine VOK_lt (run_app10 acc (.mk yo yk ynm yfd yad yn yvk yvi yvf ya) (by omega)) (okA _) (VOK_lt (add_c (by omega) (by omega)) rfl (VOK_again rfl ⟨(acc ++ [_], i + 1), ⟨by simp; omega, hi, ?_⟩, rfl, by simp only; omega⟩))
      intro a ha
      rcases List.mem_append.1 ha with ha | ha
      ·exact h3 a ha
      ·cases List.mem_singleton.1 ha; exact (hy h).1
    have hi : i = args.length := by omega
    subst hi
    have ha1 : acc.length = 1 := by unfold Ari at hA; omega
    obtain ⟨y, rfl⟩ := List.length_eq_one_iff.1 ha1
    have hy := h3 y (List.mem_singleton.2 rfl)
    obtain ⟨yo, yk, ynm, yfd, yad, yn, yvk, yvi, yvf, ya⟩ := y
    (refine it_c rfl rfl (fun h => ?_) (fun h => ?_) <;> simp only [Cmp, Decidable.not_not, Int.not_lt, Int.not_le] at h <;> try (exfalso; first | exact h trivial | omega))
    refine callF' (p91 3 kd [107] fd ad n vk vi vf args _ rfl) rfl (by show okL (VARS :: (encX (.mk 3 kd [107] fd ad n vk vi vf args) ++ [encA _])) = true; rw [okL_cons]; exact encL_ok.okL_join (okX _) (by simp only [okL, okA])) ⟨?_, trivial⟩
    rintro ws ⟨e, rfl, he⟩
    refine finE (y := .mk 3 2 [107] fd 8 4 vk vi vf [.mk _ _ _ _ _ _ _ _ _ _]) rfl (fun h => ⟨⟨.inr (.inl ⟨.inl rfl, rfl⟩), hF, by decide, by decide, ⟨fun h => by omega, fun h => by omega, fun _ => ⟨rfl, rfl, rfl, _, rfl, he h⟩, fun h => by omega, fun h => by omega, fun h => by omega, fun h => by omega⟩, fun a ha => by cases List.mem_singleton.1 ha; exact hy⟩, rfl⟩)
   ·refine VOK_loop (ι := List GX × Nat) (fun s => [encA s.1, .int .i64 (s.2 : Int)]) (fun s => s.1.length = s.2 ∧ s.2 ≤ args.length ∧ ∀ a ∈ s.1, TX d a) (fun s => args.length - s.2) ([], 0) ⟨rfl, Nat.zero_le _, fun a ha => (List.not_mem_nil ha).elim⟩ rfl (fun s _ => by simp only [okL, okC, okA]) (fun s s' _ _ h => by simp at h; omega) (fun s hs => ?_)
    obtain ⟨acc, i⟩ := s
    obtain ⟨h1, h2, h3⟩ := hs
    simp only at h1 h2 h3 ⊢
    refine VOK_lt (run_len38 args) rfl ?_
    (refine it_c rfl rfl (fun h => ?_) (fun h => ?_) <;> simp only [Cmp, Decidable.not_not, Int.not_lt, Int.not_le] at h <;> try (exfalso; first | exact h trivial | omega))
    ·have hi : i < args.length := by omega
     have hld := run_ld40 args hi
     have hz := ih args[i] (List.getElem_mem hi)
     rcases hzz : args[i] with ⟨zo, zk, znm, zfd, zad, zn, zvk, zvi, zvf, za⟩
     rw [hzz] at hld hz
     refine VOK_lt (run_ia38 args hi) (encL_ok okX _) (VOK_ltN hld rfl (okX _) ?_)
     refine callF' hz rfl (by show okL (VARS :: encX (.mk zo zk znm zfd zad zn zvk zvi zvf za)) = true; rw [okL_cons]; exact okX _) ⟨?_, trivial⟩
     rintro ws ⟨⟨yo, yk, ynm, yfd, yad, yn, yvk, yvi, yvf, ya⟩, e, rfl, hy⟩
     (refine it_c rfl rfl (fun h => ?_) (fun h => ?_) <;> simp only [Cmp, Decidable.not_not, Int.not_lt, Int.not_le] at h <;> try (exfalso; first | exact h trivial | omega))
     ·exact finE (y := .mk _ _ _ _ _ _ _ _ _ _) rfl (fun he => absurd he h)
     ·refine VOK_lt (run_app10 acc (.mk yo yk ynm yfd yad yn yvk yvi yvf ya) (by omega)) (okA _) (VOK_lt (add_c (by omega) (by omega)) rfl (VOK_again rfl ⟨(acc ++ [_], i + 1), ⟨by simp; omega, hi, ?_⟩, rfl, by simp only; omega⟩))
      intro a ha
      rcases List.mem_append.1 ha with ha | ha
      ·exact h3 a ha
      ·cases List.mem_singleton.1 ha; exact (hy h).1
    have hi : i = args.length := by omega
    subst hi
    by_cases hop : 15 ≤ op
    ·have hop2 : op = 15 ∨ op = 16 ∨ op = 17 := by unfold Ari at hA; omega
     have ha1 : acc.length = 1 := by unfold Ari at hA; omega
     obtain ⟨y, rfl⟩ := List.length_eq_one_iff.1 ha1
     have hy := h3 y (List.mem_singleton.2 rfl)
     obtain ⟨yo, yk, ynm, yfd, yad, yn, yvk, yvi, yvf, ya⟩ := y
     have n4' : op = 17 → 2 ≤ kd ∧ kd ≤ 5 := n4
     rcases hop2 with rfl | rfl | rfl
     ·(refine it_c rfl rfl (fun h => ?_) (fun h => ?_) <;> simp only [Cmp, Decidable.not_not, Int.not_lt, Int.not_le] at h <;> try (exfalso; first | exact h trivial | omega))
      refine VOK_lt (r := .int .i64 0) rfl rfl (VOK_lt (r := .int .i64 yk) rfl rfl ?_)
      repeat' (first
                | (refine it_c rfl rfl (fun h => ?_) (fun h => ?_) <;> simp only [Cmp, Decidable.not_not, Int.not_lt, Int.not_le] at h <;> try (exfalso; first | exact h trivial | omega))
                | refine VOK_call (p92t _) rfl rfl ?_
                | refine VOK_call (p45 _) rfl rfl ?_
                | refine VOK_chk (.inr ⟨_, _, _, _, rfl, rfl⟩) ?_
                | refine it_d rfl (fun h => ?_) (fun h => ?_)
                | refine VOK_lt (run_eql ..) rfl ?_
                | refine VOK_lt (run_neq ..) rfl ?_)
      all_goals (first
                  | exact finE (y := .mk _ _ _ _ _ _ _ _ _ _) rfl (fun he => absurd he (by decide))
                  | (refine finE (y := .mk _ _ _ _ _ _ _ _ _ [.mk _ _ _ _ _ _ _ _ _ _]) rfl (fun he => ?_)
                     have he2 := typ0 he
                     simp only [decide_eq_true_eq, Bool.not_eq_true', decide_eq_false_iff_not] at he2
                     refine ⟨TX1 hF hy ?_, rfl⟩
                     dsimp only [GX.kd]
                     omega)
                  | (refine finE (y := .mk _ _ _ _ _ _ _ _ _ [.mk _ _ _ _ _ _ _ _ _ _]) rfl (fun he => ?_)
                     refine ⟨TX1 hF hy ?_, rfl⟩
                     dsimp only [GX.kd]
                     omega))
     ·(refine it_c rfl rfl (fun h => ?_) (fun h => ?_) <;> simp only [Cmp, Decidable.not_not, Int.not_lt, Int.not_le] at h <;> try (exfalso; first | exact h trivial | omega))
      refine VOK_lt (r := .int .i64 0) rfl rfl (VOK_lt (r := .int .i64 yk) rfl rfl ?_)
      repeat' (first
                | (refine it_c rfl rfl (fun h => ?_) (fun h => ?_) <;> simp only [Cmp, Decidable.not_not, Int.not_lt, Int.not_le] at h <;> try (exfalso; first | exact h trivial | omega))
                | refine VOK_call (p92t _) rfl rfl ?_
                | refine VOK_call (p45 _) rfl rfl ?_
                | refine VOK_chk (.inr ⟨_, _, _, _, rfl, rfl⟩) ?_
                | refine it_d rfl (fun h => ?_) (fun h => ?_)
                | refine VOK_lt (run_eql ..) rfl ?_
                | refine VOK_lt (run_neq ..) rfl ?_)
      all_goals (first
                  | exact finE (y := .mk _ _ _ _ _ _ _ _ _ _) rfl (fun he => absurd he (by decide))
                  | (refine finE (y := .mk _ _ _ _ _ _ _ _ _ [.mk _ _ _ _ _ _ _ _ _ _]) rfl (fun he => ?_)
                     have he2 := typ0 he
                     simp only [decide_eq_true_eq, Bool.not_eq_true', decide_eq_false_iff_not] at he2
                     refine ⟨TX1 hF hy ?_, rfl⟩
                     dsimp only [GX.kd]
                     omega)
                  | (refine finE (y := .mk _ _ _ _ _ _ _ _ _ [.mk _ _ _ _ _ _ _ _ _ _]) rfl (fun he => ?_)
                     refine ⟨TX1 hF hy ?_, rfl⟩
                     dsimp only [GX.kd]
                     omega))
     ·(refine it_c rfl rfl (fun h => ?_) (fun h => ?_) <;> simp only [Cmp, Decidable.not_not, Int.not_lt, Int.not_le] at h <;> try (exfalso; first | exact h trivial | omega))
      have n5 := n4 rfl
      refine VOK_lt (r := .int .i64 0) rfl rfl (VOK_lt (r := .int .i64 yk) rfl rfl ?_)
      repeat' (first
                | (refine it_c rfl rfl (fun h => ?_) (fun h => ?_) <;> simp only [Cmp, Decidable.not_not, Int.not_lt, Int.not_le] at h <;> try (exfalso; first | exact h trivial | omega))
                | refine VOK_call (p92t _) rfl rfl ?_
                | refine VOK_call (p45 _) rfl rfl ?_
                | refine VOK_chk (.inr ⟨_, _, _, _, rfl, rfl⟩) ?_
                | refine it_d rfl (fun h => ?_) (fun h => ?_)
                | refine VOK_lt (run_eql ..) rfl ?_
                | refine VOK_lt (run_neq ..) rfl ?_)
      all_goals (first
                  | exact finE (y := .mk _ _ _ _ _ _ _ _ _ _) rfl (fun he => absurd he (by decide))
                  | (refine finE (y := .mk _ _ _ _ _ _ _ _ _ [.mk _ _ _ _ _ _ _ _ _ _]) rfl (fun he => ?_)
                     have he2 := typ0 he
                     simp only [decide_eq_true_eq, Bool.not_eq_true', decide_eq_false_iff_not] at he2
                     refine ⟨TX1 hF hy ?_, rfl⟩
                     dsimp only [GX.kd]
                     omega)
                  | (refine finE (y := .mk _ _ _ _ _ _ _ _ _ [.mk _ _ _ _ _ _ _ _ _ _]) rfl (fun he => ?_)
                     refine ⟨TX1 hF hy ?_, rfl⟩
                     dsimp only [GX.kd]
                     omega))
    ·have hop2 : 4 ≤ op ∧ op ≤ 14 := by unfold Ari at hA; omega
     have ha1 : acc.length = 2 := by unfold Ari at hA; omega
     obtain ⟨y, z, rfl⟩ : ∃ y z, acc = [y, z] := by
      rcases acc with _ | ⟨y, _ | ⟨z, _ | ⟨w, t⟩⟩⟩ <;> simp at ha1
      exact ⟨y, z, rfl⟩
     have hy := h3 y (List.mem_cons_self ..)
     have hz := h3 z (List.mem_cons_of_mem _ (List.mem_singleton.2 rfl))
     obtain ⟨yo, yk, ynm, yfd, yad, yn, yvk, yvi, yvf, ya⟩ := y
     obtain ⟨zo, zk, znm, zfd, zad, zn, zvk, zvi, zvf, za⟩ := z
     (refine it_c rfl rfl (fun h => ?_) (fun h => ?_) <;> simp only [Cmp, Decidable.not_not, Int.not_lt, Int.not_le] at h <;> try (exfalso; first | exact h trivial | omega))
     refine VOK_lt (r := .int .i64 0) rfl rfl (VOK_lt (r := .int .i64 yk) rfl rfl ?_)
     (refine it_c rfl rfl (fun h => ?_) (fun h => ?_) <;> simp only [Cmp, Decidable.not_not, Int.not_lt, Int.not_le] at h <;> try (exfalso; first | exact h trivial | omega)); (refine it_c rfl rfl (fun h => ?_) (fun h => ?_) <;> simp only [Cmp, Decidable.not_not, Int.not_lt, Int.not_le] at h <;> try (exfalso; first | exact h trivial | omega)); (refine it_c rfl rfl (fun h => ?_) (fun h => ?_) <;> simp only [Cmp, Decidable.not_not, Int.not_lt, Int.not_le] at h <;> try (exfalso; first | exact h trivial | omega)); (refine it_c rfl rfl (fun h => ?_) (fun h => ?_) <;> simp only [Cmp, Decidable.not_not, Int.not_lt, Int.not_le] at h <;> try (exfalso; first | exact h trivial | omega))
     (refine it_c rfl rfl (fun h => ?_) (fun h => ?_) <;> simp only [Cmp, Decidable.not_not, Int.not_lt, Int.not_le] at h <;> try (exfalso; first | exact h trivial | omega))
     ·refine VOK_lt (r := .int .i64 0) rfl rfl (VOK_ltN (cs := encX (.mk yo yk ynm yfd yad yn yvk yvi yvf ya)) rfl rfl (okX _) (VOK_lt (r := .int .i64 1) rfl rfl (VOK_lt (r := .int .i64 zk) rfl rfl ?_)))
      obtain ⟨⟨yo1, yk1, ynm1, yfd1, yad1, yn1, yvk1, yvi1, yvf1, ya1⟩, hp1, hy1⟩ := p89 _ zk hy
      refine VOK_call hp1 rfl (okXe _) ?_
      refine VOK_lt (r := .int .i64 1) rfl rfl (VOK_ltN (cs := encX (.mk zo zk znm zfd zad zn zvk zvi zvf za)) rfl rfl (okX _) (VOK_lt (r := .int .i64 0) rfl rfl (VOK_lt (r := .int .i64 yk) rfl rfl ?_)))
      obtain ⟨⟨zo1, zk1, znm1, zfd1, zad1, zn1, zvk1, zvi1, zvf1, za1⟩, hp2, hz1⟩ := p89 _ yk hz
      refine VOK_call hp2 rfl (okXe _) ?_
      clear hy hz
      have hy := hy1
      have hz := hz1
      refine VOK_lt (r := .int .i64 0) rfl rfl (VOK_lt (r := encA [.mk yo1 yk1 ynm1 yfd1 yad1 yn1 yvk1 yvi1 yvf1 ya1, .mk zo zk znm zfd zad zn zvk zvi zvf za]) (run_stx40 [(.mk yo yk ynm yfd yad yn yvk yvi yvf ya), (.mk zo zk znm zfd zad zn zvk zvi zvf za)] (i := 0) (by simp) (.mk yo1 yk1 ynm1 yfd1 yad1 yn1 yvk1 yvi1 yvf1 ya1) .i64) (okA _) (VOK_lt (r := .int .i64 1) rfl rfl (VOK_lt (r := encA [.mk yo1 yk1 ynm1 yfd1 yad1 yn1 yvk1 yvi1 yvf1 ya1, .mk zo1 zk1 znm1 zfd1 zad1 zn1 zvk1 zvi1 zvf1 za1]) (run_stx40 [(.mk yo1 yk1 ynm1 yfd1 yad1 yn1 yvk1 yvi1 yvf1 ya1), (.mk zo zk znm zfd zad zn zvk zvi zvf za)] (i := 1) (by simp) (.mk zo1 zk1 znm1 zfd1 zad1 zn1 zvk1 zvi1 zvf1 za1) .i64) (okA _) ?_)))
      refine VOK_lt (r := .int .i64 0) rfl rfl (VOK_lt (r := .int .i64 yk1) rfl rfl (VOK_lt (r := .int .i64 1) rfl rfl (VOK_lt (r := .int .i64 zk1) rfl rfl ?_)))
      repeat' (first
                | (refine it_c rfl rfl (fun h => ?_) (fun h => ?_) <;> simp only [Cmp, Decidable.not_not, Int.not_lt, Int.not_le] at h <;> try (exfalso; first | exact h trivial | omega))
                | refine VOK_call (p92t _) rfl rfl ?_
                | refine VOK_call (p45 _) rfl rfl ?_
                | refine VOK_chk (.inr ⟨_, _, _, _, rfl, rfl⟩) ?_
                | refine it_d rfl (fun h => ?_) (fun h => ?_)
                | refine VOK_lt (run_eql ..) rfl ?_
                | refine VOK_lt (run_neq ..) rfl ?_)
      all_goals (
                 refine finE (y := .mk _ _ _ _ _ _ _ _ _ [.mk _ _ _ _ _ _ _ _ _ _, .mk _ _ _ _ _ _ _ _ _ _]) rfl (fun he => ?_)
                 have he2 := typ0 he
                 first
                  | (exact absurd he2 (by decide))
                  | (simp only [decide_eq_true_eq, Bool.not_eq_true', decide_eq_false_iff_not] at he2
                     exact ⟨TX2 hF hy hz (by omega) (by dsimp only [GX.kd]; omega) (by dsimp only [GX.kd]; omega) (by omega) (by dsimp only [GX.kd]; omega) (by dsimp only [GX.kd]; omega) (by dsimp only [GX.kd]; omega), rfl⟩))
     ·refine VOK_lt (r := .int .i64 1) rfl rfl (VOK_lt (r := .int .i64 zk) rfl rfl ?_)
      repeat' (first
                | (refine it_c rfl rfl (fun h => ?_) (fun h => ?_) <;> simp only [Cmp, Decidable.not_not, Int.not_lt, Int.not_le] at h <;> try (exfalso; first | exact h trivial | omega))
                | refine VOK_call (p92t _) rfl rfl ?_
                | refine VOK_call (p45 _) rfl rfl ?_
                | refine VOK_chk (.inr ⟨_, _, _, _, rfl, rfl⟩) ?_
                | refine it_d rfl (fun h => ?_) (fun h => ?_)
                | refine VOK_lt (run_eql ..) rfl ?_
                | refine VOK_lt (run_neq ..) rfl ?_)
      all_goals (
                 refine finE (y := .mk _ _ _ _ _ _ _ _ _ [.mk _ _ _ _ _ _ _ _ _ _, .mk _ _ _ _ _ _ _ _ _ _]) rfl (fun he => ?_)
                 have he2 := typ0 he
                 first
                  | (exact absurd he2 (by decide))
                  | (simp only [decide_eq_true_eq, Bool.not_eq_true', decide_eq_false_iff_not] at he2
                     exact ⟨TX2 hF hy hz (by omega) (by dsimp only [GX.kd]; omega) (by dsimp only [GX.kd]; omega) (by omega) (by dsimp only [GX.kd]; omega) (by dsimp only [GX.kd]; omega) (by dsimp only [GX.kd]; omega), rfl⟩))
end Go.Proofs.Ytjconanknjgpnaa.vars
set_option maxRecDepth 100000
set_option linter.unusedVariables false
set_option linter.unusedSimpArgs false
namespace Go.Proofs.Ytjconanknjgpnaa.vars
open Go Go.Sx
def c78 : VC := ⟨⟨[], []⟩, [(88, [(some 10), none, none]), (89, [(some 10)])], [], 0, true, [(80, ft80)]⟩
def t78 : VT :=
 (.callF 80 ft80 [64, 76, 77, 78, 79, 80, 81, 82, 83, 84, 85] 92
 (.cons 11
 (.lt (.bin .neq 31 false true) [113, J 0] 114 none
 (.ite 114
 (.done (.tup [J 0, 65, 66, 67, 68, 69, 70, 71, 72, 73, 74, 75, 76, 77, 78, 79, 80, 81, 82, 83, 84, 85, 86, 87, 88, 89, 90, 91, 113]))
 (.callF 80 ft80 [64, 66, 67, 68, 69, 70, 71, 72, 73, 74, 75] 115
 (.cons 11
 (.lt (.bin .neq 31 false true) [136, J 0] 137 none
 (.ite 137
 (.done (.tup [J 0, 65, 66, 67, 68, 69, 70, 71, 72, 73, 74, 75, 76, 77, 78, 79, 80, 81, 82, 83, 84, 85, 86, 87, 88, 89, 90, 91, 136]))
 (.call 88 [64, 68] 138 [(some 10), none, none]
 (.lt (.bin .neq 9 false true) [69, .str []] 150 none
 (.ite 150
 (.done (.tup [J 0, 65, 66, 67, 68, 69, 70, 71, 72, 73, 74, 75, 76, 77, 78, 79, 80, 81, 82, 83, 84, 85, 86, 87, 88, 89, 90, 91, J 4]))
 (.lt (.bin .eql 3 false true) [139, J 1] 151 none
 (.ite 151
 (.done (.tup [J 0, 65, 66, 67, 68, 69, 70, 71, 72, 73, 74, 75, 76, 77, 78, 79, 80, 81, 82, 83, 84, 85, 86, 87, 88, 89, 90, 91, J 13]))
 (.call 89 [.agg [103, 104, 105, 106, 107, 108, 109, 110, 111, 112], 127] 152 [(some 10)]
 (.lt (.bin .neq 3 false false) [153, 127] 162 none
 (.ite 162
 (.done (.tup [J 0, 65, 66, 67, 68, 69, 70, 71, 72, 73, 74, 75, 76, 77, 78, 79, 80, 81, 82, 83, 84, 85, 86, 87, 88, 89, 90, 91, J 4]))
 (.done (.tup [J 0, 65, 126, 127, 128, 129, 130, 131, 132, 133, 134, 135, 152, 153, 154, 155, 156, 157, 158, 159, 160, 161, 86, 87, 88, 89, 90, 91, J 0]))))))))))))
 .nil))))
 .nil))
def c79 : VC := ⟨⟨[], []⟩, [(88, [(some 10), none, none]), (89, [(some 10)]), (46, [none])], [(0, [⟨[(4, .ptr 1 0), (3, .ptr 0 0), (9, .slx 3 1 0), (10, .slx 4 10 1), (11, .slx 2 0 0), (0, 64), (7, 102), (6, .ptr 2 0)], [(1, [J 0, J 0, J 0, .str [], .str [], J 0, J 0, J 0, J 0, .flt .f64 0, .nsl, J 0, J 0, .str [], .str [], J 0, J 0, J 0, J 0, .flt .f64 0, .nsl, .nsl, .nsl, .str [], J 0, J 0, .nsl]), (0, [65, 66, 67, 68, 69, 70, 71, 72, 73, 74, 75, 76, 77, 78, 79, 80, 81, 82, 83, 84, 85, 86, 87, 88, 89, 90, 91]), (2, [92, 93, 94, 95, 96, 97, 98, 99, 100, 101])], 5, 3, [⟨3, 1, 0, 9, none⟩, ⟨4, 10, 1, 10, none⟩], [], []⟩]), (2, [⟨[(4, .ptr 1 0), (3, .ptr 0 0), (14, .slx 0 0 0), (9, .slx 3 1 1), (10, .slx 4 10 2), (6, .ptr 2 0), (7, 102)], [(1, [J 0, J 0, J 0, .str [], .str [], J 0, J 0, J 0, J 0, .flt .f64 0, .nsl, J 0, J 0, .str [], .str [], J 0, J 0, J 0, J 0, .flt .f64 0, .nsl, .nsl, .nsl, .str [], J 0, J 0, .nsl]), (0, [65, 66, 67, 68, 69, 70, 71, 72, 73, 74, 75, 76, 77, 78, 79, 80, 81, 82, 83, 84, 85, 86, 87, 88, 89, 90, 91]), (2, [92, 93, 94, 95, 96, 97, 98, 99, 100, 101])], 5, 3, [⟨3, 1, 1, 9, none⟩, ⟨4, 10, 2, 10, none⟩], [], []⟩])], 0, true, [(80, ft80)]⟩
def t79 : VT :=
 (.call 88 [64, 88] 92 [(some 10), none, none]
 (.lt (.un .not) [103] 104 none
 (.ite 104
 (.done (.tup [J 0, 65, 66, 67, 68, 69, 70, 71, 72, 73, 74, 75, 76, 77, 78, 79, 80, 81, 82, 83, 84, 85, 86, 87, 88, 89, 90, 91, J 3]))
 (.call 46 [94] 105 [none]
 (.lt (.bin .lss 3 false true) [105, J 2] 106 none
 (.ite 106
 (.done (.tup [J 0, 65, 66, 67, 68, 69, 70, 71, 72, 73, 74, 75, 76, 77, 78, 79, 80, 81, 82, 83, 84, 85, 86, 87, 88, 89, 90, 91, J 4]))
 (.lt (.bin .eql 3 false true) [94, J 9] 107 none
 (.ite 107
 (.lt (.bin .eql 3 false true) [94, J 11] 108 none
 (.ite 108
 (.loop 109 0 [.vsl 1 1 [J 1], .nsl, J 0]
 (.cons 3
 (.lt (.len 38) [91] 112 none
 (.lt (.bin .lss 3 false false) [111, 112] 113 none
 (.ite 113
 (.lt (.iaddr 38) [91, 111] 114 none
 (.lt (.load 40) [114] 115 (some 10)
 (.callF 80 ft80 [64, 115, 116, 117, 118, 119, 120, 121, 122, 123, 124] 125
 (.cons 11
 (.lt (.bin .neq 31 false true) [146, J 0] 147 none
 (.ite 147
 (.done (.tup [J 0, 65, 66, 67, 68, 69, 70, 71, 72, 73, 74, 75, 76, 77, 78, 79, 80, 81, 82, 83, 84, 85, 86, 87, 88, 89, 90, 91, 146]))
 (.lt (.len 140) [109] 148 none
 (.lt (.bin .lss 3 false false) [111, 148] 149 none
 (.ite 149
 (.lt .inb [109, 111] 150 none
 (.lt (.ldx 3 1 0) [109, 150] 151 none
 (.call 89 [.agg [136, 137, 138, 139, 140, 141, 142, 143, 144, 145], 151] 152 [(some 10)]
 (.lt (.app 10 112) [110, .agg [152, 153, 154, 155, 156, 157, 158, 159, 160, 161]] 162 none
 (.lt (.bin .add 3 false true) [111, J 1] 163 none
 (.again 0 0 [109, 162, 163]))))))
 (.lt (.app 10 112) [110, .agg [136, 137, 138, 139, 140, 141, 142, 143, 144, 145]] 150 none
 (.lt (.bin .add 3 false true) [111, J 1] 151 none
 (.again 0 0 [109, 150, 151]))))))))
 .nil))))
 (.lt (.len 38) [110] 114 none
 (.lt (.len 140) [109] 115 none
 (.lt (.bin .neq 3 false false) [114, 115] 116 none
 (.ite 116
 (.done (.tup [J 0, 65, 66, 67, 68, 69, 70, 71, 72, 73, 74, 75, 76, 77, 78, 79, 80, 81, 82, 83, 84, 85, 86, 87, 88, 89, 90, 91, J 4]))
 (.loop 117 0 [J 0, 109, 110]
 (.cons 3
 (.lt (.len 140) [118] 120 none
 (.lt (.bin .lss 3 false false) [117, 120] 121 none
 (.ite 121
 (.lt .inb [119, 117] 122 none
 (.lt (.ldx 3 10 1) [119, 122] 123 none
 (.lt .inb [118, 117] 124 none
 (.lt (.ldx 3 1 0) [118, 124] 125 none
 (.lt (.bin .neq 3 false false) [123, 125] 126 none
 (.ite 126
 (.done (.tup [J 0, 65, 66, 67, 68, 69, 70, 71, 72, 73, 74, 75, 76, 77, 78, 79, 80, 81, 82, 83, 84, 85, 86, 87, 88, 89, 90, 91, J 4]))
 (.lt (.bin .add 3 false true) [117, J 1] 127 none
 (.again 1 0 [127, 118, 119]))))))))
 (.done (.tup [J 0, 65, 66, 67, 68, 69, 70, 71, 72, 73, 74, 75, 76, 77, 78, 79, 80, 81, 82, 83, 84, 85, 86, 87, 88, 94, 102, 119, J 0])))))
 .nil)))))))))
 .nil))
 (.lt (.bin .eql 3 false true) [94, J 12] 109 none
 (.ite 109
 (.loop 110 0 [.vsl 1 1 [J 1], .nsl, J 0]
 (.cons 3
 (.lt (.len 38) [91] 113 none
 (.lt (.bin .lss 3 false false) [112, 113] 114 none
 (.ite 114
 (.lt (.iaddr 38) [91, 112] 115 none
 (.lt (.load 40) [115] 116 (some 10)
 (.callF 80 ft80 [64, 116, 117, 118, 119, 120, 121, 122, 123, 124, 125] 126
 (.cons 11
 (.lt (.bin .neq 31 false true) [147, J 0] 148 none
 (.ite 148
 (.done (.tup [J 0, 65, 66, 67, 68, 69, 70, 71, 72, 73, 74, 75, 76, 77, 78, 79, 80, 81, 82, 83, 84, 85, 86, 87, 88, 89, 90, 91, 147]))
 (.lt (.len 140) [110] 149 none
 (.lt (.bin .lss 3 false false) [112, 149] 150 none
 (.ite 150
 (.lt .inb [110, 112] 151 none
 (.lt (.ldx 3 1 0) [110, 151] 152 none
 (.call 89 [.agg [137, 138, 139, 140, 141, 142, 143, 144, 145, 146], 152] 153 [(some 10)]
 (.lt (.app 10 112) [111, .agg [153, 154, 155, 156, 157, 158, 159, 160, 161, 162]] 163 none
 (.lt (.bin .add 3 false true) [112, J 1] 164 none
 (.again 0 0 [110, 163, 164]))))))
 (.lt (.app 10 112) [111, .agg [137, 138, 139, 140, 141, 142, 143, 144, 145, 146]] 151 none
 (.lt (.bin .add 3 false true) [112, J 1] 152 none
 (.again 0 0 [110, 151, 152]))))))))
 .nil))))
 (.lt (.len 38) [111] 115 none
 (.lt (.len 140) [110] 116 none
 (.lt (.bin .neq 3 false false) [115, 116] 117 none
 (.ite 117
 (.done (.tup [J 0, 65, 66, 67, 68, 69, 70, 71, 72, 73, 74, 75, 76, 77, 78, 79, 80, 81, 82, 83, 84, 85, 86, 87, 88, 89, 90, 91, J 4]))
 (.loop 118 0 [J 0, 110, 111]
 (.cons 3
 (.lt (.len 140) [119] 121 none
 (.lt (.bin .lss 3 false false) [118, 121] 122 none
 (.ite 122
 (.lt .inb [120, 118] 123 none
 (.lt (.ldx 3 10 1) [120, 123] 124 none
 (.lt .inb [119, 118] 125 none
 (.lt (.ldx 3 1 0) [119, 125] 126 none
 (.lt (.bin .neq 3 false false) [124, 126] 127 none
 (.ite 127
 (.done (.tup [J 0, 65, 66, 67, 68, 69, 70, 71, 72, 73, 74, 75, 76, 77, 78, 79, 80, 81, 82, 83, 84, 85, 86, 87, 88, 89, 90, 91, J 4]))
 (.lt (.bin .add 3 false true) [118, J 1] 128 none
 (.again 1 0 [128, 119, 120]))))))))
 (.done (.tup [J 0, 65, 66, 67, 68, 69, 70, 71, 72, 73, 74, 75, 76, 77, 78, 79, 80, 81, 82, 83, 84, 85, 86, 87, 88, 94, 102, 120, J 0])))))
 .nil)))))))))
 .nil))
 (.loop 110 0 [.vsl 2 1 [J 1, J 2], .nsl, J 0]
 (.cons 3
 (.lt (.len 38) [91] 113 none
 (.lt (.bin .lss 3 false false) [112, 113] 114 none
 (.ite 114
 (.lt (.iaddr 38) [91, 112] 115 none
 (.lt (.load 40) [115] 116 (some 10)
 (.callF 80 ft80 [64, 116, 117, 118, 119, 120, 121, 122, 123, 124, 125] 126
 (.cons 11
 (.lt (.bin .neq 31 false true) [147, J 0] 148 none
 (.ite 148
 (.done (.tup [J 0, 65, 66, 67, 68, 69, 70, 71, 72, 73, 74, 75, 76, 77, 78, 79, 80, 81, 82, 83, 84, 85, 86, 87, 88, 89, 90, 91, 147]))
 (.lt (.len 140) [110] 149 none
 (.lt (.bin .lss 3 false false) [112, 149] 150 none
 (.ite 150
 (.lt .inb [110, 112] 151 none
 (.lt (.ldx 3 1 0) [110, 151] 152 none
 (.call 89 [.agg [137, 138, 139, 140, 141, 142, 143, 144, 145, 146], 152] 153 [(some 10)]
 (.lt (.app 10 112) [111, .agg [153, 154, 155, 156, 157, 158, 159, 160, 161, 162]] 163 none
 (.lt (.bin .add 3 false true) [112, J 1] 164 none
 (.again 0 0 [110, 163, 164]))))))
 (.lt (.app 10 112) [111, .agg [137, 138, 139, 140, 141, 142, 143, 144, 145, 146]] 151 none
 (.lt (.bin .add 3 false true) [112, J 1] 152 none
 (.again 0 0 [110, 151, 152]))))))))
 .nil))))
 (.lt (.len 38) [111] 115 none
 (.lt (.len 140) [110] 116 none
 (.lt (.bin .neq 3 false false) [115, 116] 117 none
 (.ite 117
 (.done (.tup [J 0, 65, 66, 67, 68, 69, 70, 71, 72, 73, 74, 75, 76, 77, 78, 79, 80, 81, 82, 83, 84, 85, 86, 87, 88, 89, 90, 91, J 4]))
 (.loop 118 0 [J 0, 110, 111]
 (.cons 3
 (.lt (.len 140) [119] 121 none
 (.lt (.bin .lss 3 false false) [118, 121] 122 none
 (.ite 122
 (.lt .inb [120, 118] 123 none
 (.lt (.ldx 3 10 1) [120, 123] 124 none
 (.lt .inb [119, 118] 125 none
 (.lt (.ldx 3 1 0) [119, 125] 126 none
 (.lt (.bin .neq 3 false false) [124, 126] 127 none
 (.ite 127
 (.done (.tup [J 0, 65, 66, 67, 68, 69, 70, 71, 72, 73, 74, 75, 76, 77, 78, 79, 80, 81, 82, 83, 84, 85, 86, 87, 88, 89, 90, 91, J 4]))
 (.lt (.bin .add 3 false true) [118, J 1] 128 none
 (.again 1 0 [128, 119, 120]))))))))
 (.done (.tup [J 0, 65, 66, 67, 68, 69, 70, 71, 72, 73, 74, 75, 76, 77, 78, 79, 80, 81, 82, 83, 84, 85, 86, 87, 88, 94, 102, 120, J 0])))))
 .nil)))))))))
 .nil))))))
 (.lt (.bin .eql 3 false true) [94, J 10] 108 none
 (.ite 108
 (.lt (.bin .eql 3 false true) [94, J 11] 109 none
 (.ite 109
 (.loop 110 0 [.vsl 1 1 [J 1], .nsl, J 0]
 (.cons 3
 (.lt (.len 38) [91] 113 none
 (.lt (.bin .lss 3 false false) [112, 113] 114 none
 (.ite 114
 (.lt (.iaddr 38) [91, 112] 115 none
 (.lt (.load 40) [115] 116 (some 10)
 (.callF 80 ft80 [64, 116, 117, 118, 119, 120, 121, 122, 123, 124, 125] 126
 (.cons 11
 (.lt (.bin .neq 31 false true) [147, J 0] 148 none
 (.ite 148
 (.done (.tup [J 0, 65, 66, 67, 68, 69, 70, 71, 72, 73, 74, 75, 76, 77, 78, 79, 80, 81, 82, 83, 84, 85, 86, 87, 88, 89, 90, 91, 147]))
 (.lt (.len 140) [110] 149 none
 (.lt (.bin .lss 3 false false) [112, 149] 150 none
 (.ite 150
 (.lt .inb [110, 112] 151 none
 (.lt (.ldx 3 1 0) [110, 151] 152 none
 (.call 89 [.agg [137, 138, 139, 140, 141, 142, 143, 144, 145, 146], 152] 153 [(some 10)]
 (.lt (.app 10 112) [111, .agg [153, 154, 155, 156, 157, 158, 159, 160, 161, 162]] 163 none
 (.lt (.bin .add 3 false true) [112, J 1] 164 none
 (.again 0 0 [110, 163, 164]))))))
 (.lt (.app 10 112) [111, .agg [137, 138, 139, 140, 141, 142, 143, 144, 145, 146]] 151 none
 (.lt (.bin .add 3 false true) [112, J 1] 152 none
 (.again 0 0 [110, 151, 152]))))))))
 .nil))))
 (.lt (.len 38) [111] 115 none
 (.lt (.len 140) [110] 116 none
 (.lt (.bin .neq 3 false false) [115, 116] 117 none
 (.ite 117
 (.done (.tup [J 0, 65, 66, 67, 68, 69, 70, 71, 72, 73, 74, 75, 76, 77, 78, 79, 80, 81, 82, 83, 84, 85, 86, 87, 88, 89, 90, 91, J 4]))
 (.loop 118 0 [J 0, 110, 111]
 (.cons 3
 (.lt (.len 140) [119] 121 none
 (.lt (.bin .lss 3 false false) [118, 121] 122 none
 (.ite 122
 (.lt .inb [120, 118] 123 none
 (.lt (.ldx 3 10 1) [120, 123] 124 none
 (.lt .inb [119, 118] 125 none
 (.lt (.ldx 3 1 0) [119, 125] 126 none
 (.lt (.bin .neq 3 false false) [124, 126] 127 none
 (.ite 127
 (.done (.tup [J 0, 65, 66, 67, 68, 69, 70, 71, 72, 73, 74, 75, 76, 77, 78, 79, 80, 81, 82, 83, 84, 85, 86, 87, 88, 89, 90, 91, J 4]))
 (.lt (.bin .add 3 false true) [118, J 1] 128 none
 (.again 1 0 [128, 119, 120]))))))))
 (.done (.tup [J 0, 65, 66, 67, 68, 69, 70, 71, 72, 73, 74, 75, 76, 77, 78, 79, 80, 81, 82, 83, 84, 85, 86, 87, 88, 94, 102, 120, J 0])))))
 .nil)))))))))
 .nil))
 (.lt (.bin .eql 3 false true) [94, J 12] 110 none
 (.ite 110
 (.loop 111 0 [.vsl 1 1 [J 1], .nsl, J 0]
 (.cons 3
 (.lt (.len 38) [91] 114 none
 (.lt (.bin .lss 3 false false) [113, 114] 115 none
 (.ite 115
 (.lt (.iaddr 38) [91, 113] 116 none
 (.lt (.load 40) [116] 117 (some 10)
 (.callF 80 ft80 [64, 117, 118, 119, 120, 121, 122, 123, 124, 125, 126] 127
 (.cons 11
 (.lt (.bin .neq 31 false true) [148, J 0] 149 none
 (.ite 149
 (.done (.tup [J 0, 65, 66, 67, 68, 69, 70, 71, 72, 73, 74, 75, 76, 77, 78, 79, 80, 81, 82, 83, 84, 85, 86, 87, 88, 89, 90, 91, 148]))
 (.lt (.len 140) [111] 150 none
 (.lt (.bin .lss 3 false false) [113, 150] 151 none
 (.ite 151
 (.lt .inb [111, 113] 152 none
 (.lt (.ldx 3 1 0) [111, 152] 153 none
 (.call 89 [.agg [138, 139, 140, 141, 142, 143, 144, 145, 146, 147], 153] 154 [(some 10)]
 (.lt (.app 10 112) [112, .agg [154, 155, 156, 157, 158, 159, 160, 161, 162, 163]] 164 none
 (.lt (.bin .add 3 false true) [113, J 1] 165 none
 (.again 0 0 [111, 164, 165]))))))
 (.lt (.app 10 112) [112, .agg [138, 139, 140, 141, 142, 143, 144, 145, 146, 147]] 152 none
 (.lt (.bin .add 3 false true) [113, J 1] 153 none
 (.again 0 0 [111, 152, 153]))))))))
 .nil))))
 (.lt (.len 38) [112] 116 none
 (.lt (.len 140) [111] 117 none
 (.lt (.bin .neq 3 false false) [116, 117] 118 none
 (.ite 118
 (.done (.tup [J 0, 65, 66, 67, 68, 69, 70, 71, 72, 73, 74, 75, 76, 77, 78, 79, 80, 81, 82, 83, 84, 85, 86, 87, 88, 89, 90, 91, J 4]))
 (.loop 119 0 [J 0, 111, 112]
 (.cons 3
 (.lt (.len 140) [120] 122 none
 (.lt (.bin .lss 3 false false) [119, 122] 123 none
 (.ite 123
 (.lt .inb [121, 119] 124 none
 (.lt (.ldx 3 10 1) [121, 124] 125 none
 (.lt .inb [120, 119] 126 none
 (.lt (.ldx 3 1 0) [120, 126] 127 none
 (.lt (.bin .neq 3 false false) [125, 127] 128 none
 (.ite 128
 (.done (.tup [J 0, 65, 66, 67, 68, 69, 70, 71, 72, 73, 74, 75, 76, 77, 78, 79, 80, 81, 82, 83, 84, 85, 86, 87, 88, 89, 90, 91, J 4]))
 (.lt (.bin .add 3 false true) [119, J 1] 129 none
 (.again 1 0 [129, 120, 121]))))))))
 (.done (.tup [J 0, 65, 66, 67, 68, 69, 70, 71, 72, 73, 74, 75, 76, 77, 78, 79, 80, 81, 82, 83, 84, 85, 86, 87, 88, 94, 102, 121, J 0])))))
 .nil)))))))))
 .nil))
 (.loop 111 0 [.vsl 2 1 [J 1, J 2], .nsl, J 0]
 (.cons 3
 (.lt (.len 38) [91] 114 none
 (.lt (.bin .lss 3 false false) [113, 114] 115 none
 (.ite 115
 (.lt (.iaddr 38) [91, 113] 116 none
 (.lt (.load 40) [116] 117 (some 10)
 (.callF 80 ft80 [64, 117, 118, 119, 120, 121, 122, 123, 124, 125, 126] 127
 (.cons 11
 (.lt (.bin .neq 31 false true) [148, J 0] 149 none
 (.ite 149
 (.done (.tup [J 0, 65, 66, 67, 68, 69, 70, 71, 72, 73, 74, 75, 76, 77, 78, 79, 80, 81, 82, 83, 84, 85, 86, 87, 88, 89, 90, 91, 148]))
 (.lt (.len 140) [111] 150 none
 (.lt (.bin .lss 3 false false) [113, 150] 151 none
 (.ite 151
 (.lt .inb [111, 113] 152 none
 (.lt (.ldx 3 1 0) [111, 152] 153 none
 (.call 89 [.agg [138, 139, 140, 141, 142, 143, 144, 145, 146, 147], 153] 154 [(some 10)]
 (.lt (.app 10 112) [112, .agg [154, 155, 156, 157, 158, 159, 160, 161, 162, 163]] 164 none
 (.lt (.bin .add 3 false true) [113, J 1] 165 none
 (.again 0 0 [111, 164, 165]))))))
 (.lt (.app 10 112) [112, .agg [138, 139, 140, 141, 142, 143, 144, 145, 146, 147]] 152 none
 (.lt (.bin .add 3 false true) [113, J 1] 153 none
 (.again 0 0 [111, 152, 153]))))))))
 .nil))))
 (.lt (.len 38) [112] 116 none
 (.lt (.len 140) [111] 117 none
 (.lt (.bin .neq 3 false false) [116, 117] 118 none
 (.ite 118
 (.done (.tup [J 0, 65, 66, 67, 68, 69, 70, 71, 72, 73, 74, 75, 76, 77, 78, 79, 80, 81, 82, 83, 84, 85, 86, 87, 88, 89, 90, 91, J 4]))
 (.loop 119 0 [J 0, 111, 112]
 (.cons 3
 (.lt (.len 140) [120] 122 none
 (.lt (.bin .lss 3 false false) [119, 122] 123 none
 (.ite 123
 (.lt .inb [121, 119] 124 none
 (.lt (.ldx 3 10 1) [121, 124] 125 none
 (.lt .inb [120, 119] 126 none
 (.lt (.ldx 3 1 0) [120, 126] 127 none
 (.lt (.bin .neq 3 false false) [125, 127] 128 none
 (.ite 128
 (.done (.tup [J 0, 65, 66, 67, 68, 69, 70, 71, 72, 73, 74, 75, 76, 77, 78, 79, 80, 81, 82, 83, 84, 85, 86, 87, 88, 89, 90, 91, J 4]))
 (.lt (.bin .add 3 false true) [119, J 1] 129 none
 (.again 1 0 [129, 120, 121]))))))))
 (.done (.tup [J 0, 65, 66, 67, 68, 69, 70, 71, 72, 73, 74, 75, 76, 77, 78, 79, 80, 81, 82, 83, 84, 85, 86, 87, 88, 94, 102, 121, J 0])))))
 .nil)))))))))
 .nil))))))
 (.lt (.bin .eql 3 false true) [94, J 11] 109 none
 (.ite 109
 (.loop 110 0 [.vsl 1 1 [J 1], .nsl, J 0]
 (.cons 3
 (.lt (.len 38) [91] 113 none
 (.lt (.bin .lss 3 false false) [112, 113] 114 none
 (.ite 114
 (.lt (.iaddr 38) [91, 112] 115 none
 (.lt (.load 40) [115] 116 (some 10)
 (.callF 80 ft80 [64, 116, 117, 118, 119, 120, 121, 122, 123, 124, 125] 126
 (.cons 11
 (.lt (.bin .neq 31 false true) [147, J 0] 148 none
 (.ite 148
 (.done (.tup [J 0, 65, 66, 67, 68, 69, 70, 71, 72, 73, 74, 75, 76, 77, 78, 79, 80, 81, 82, 83, 84, 85, 86, 87, 88, 89, 90, 91, 147]))
 (.lt (.len 140) [110] 149 none
 (.lt (.bin .lss 3 false false) [112, 149] 150 none
 (.ite 150
 (.lt .inb [110, 112] 151 none
 (.lt (.ldx 3 1 0) [110, 151] 152 none
 (.call 89 [.agg [137, 138, 139, 140, 141, 142, 143, 144, 145, 146], 152] 153 [(some 10)]
 (.lt (.app 10 112) [111, .agg [153, 154, 155, 156, 157, 158, 159, 160, 161, 162]] 163 none
 (.lt (.bin .add 3 false true) [112, J 1] 164 none
 (.again 0 0 [110, 163, 164]))))))
 (.lt (.app 10 112) [111, .agg [137, 138, 139, 140, 141, 142, 143, 144, 145, 146]] 151 none
 (.lt (.bin .add 3 false true) [112, J 1] 152 none
 (.again 0 0 [110, 151, 152]))))))))
 .nil))))
 (.lt (.len 38) [111] 115 none
 (.lt (.len 140) [110] 116 none
 (.lt (.bin .neq 3 false false) [115, 116] 117 none
 (.ite 117
 (.done (.tup [J 0, 65, 66, 67, 68, 69, 70, 71, 72, 73, 74, 75, 76, 77, 78, 79, 80, 81, 82, 83, 84, 85, 86, 87, 88, 89, 90, 91, J 4]))
 (.loop 118 0 [J 0, 110, 111]
 (.cons 3
 (.lt (.len 140) [119] 121 none
 (.lt (.bin .lss 3 false false) [118, 121] 122 none
 (.ite 122
 (.lt .inb [120, 118] 123 none
 (.lt (.ldx 3 10 1) [120, 123] 124 none
 (.lt .inb [119, 118] 125 none
 (.lt (.ldx 3 1 0) [119, 125] 126 none
 (.lt (.bin .neq 3 false false) [124, 126] 127 none
 (.ite 127
 (.done (.tup [J 0, 65, 66, 67, 68, 69, 70, 71, 72, 73, 74, 75, 76, 77, 78, 79, 80, 81, 82, 83, 84, 85, 86, 87, 88, 89, 90, 91, J 4]))
 (.lt (.bin .add 3 false true) [118, J 1] 128 none
 (.again 1 0 [128, 119, 120]))))))))
 (.done (.tup [J 0, 65, 66, 67, 68, 69, 70, 71, 72, 73, 74, 75, 76, 77, 78, 79, 80, 81, 82, 83, 84, 85, 86, 87, 88, 94, 102, 120, J 0])))))
 .nil)))))))))
 .nil))
 (.lt (.bin .eql 3 false true) [94, J 12] 110 none
 (.ite 110
 (.loop 111 0 [.vsl 1 1 [J 1], .nsl, J 0]
 (.cons 3
 (.lt (.len 38) [91] 114 none
 (.lt (.bin .lss 3 false false) [113, 114] 115 none
 (.ite 115
 (.lt (.iaddr 38) [91, 113] 116 none
 (.lt (.load 40) [116] 117 (some 10)
 (.callF 80 ft80 [64, 117, 118, 119, 120, 121, 122, 123, 124, 125, 126] 127
 (.cons 11
 (.lt (.bin .neq 31 false true) [148, J 0] 149 none
 (.ite 149
 (.done (.tup [J 0, 65, 66, 67, 68, 69, 70, 71, 72, 73, 74, 75, 76, 77, 78, 79, 80, 81, 82, 83, 84, 85, 86, 87, 88, 89, 90, 91, 148]))
 (.lt (.len 140) [111] 150 none
 (.lt (.bin .lss 3 false false) [113, 150] 151 none
 (.ite 151
 (.lt .inb [111, 113] 152 none
 (.lt (.ldx 3 1 0) [111, 152] 153 none
 (.call 89 [.agg [138, 139, 140, 141, 142, 143, 144, 145, 146, 147], 153] 154 [(some 10)]
 (.lt (.app 10 112) [112, .agg [154, 155, 156, 157, 158, 159, 160, 161, 162, 163]] 164 none
 (.lt (.bin .add 3 false true) [113, J 1] 165 none
 (.again 0 0 [111, 164, 165]))))))
 (.lt (.app 10 112) [112, .agg [138, 139, 140, 141, 142, 143, 144, 145, 146, 147]] 152 none
 (.lt (.bin .add 3 false true) [113, J 1] 153 none
 (.again 0 0 [111, 152, 153]))))))))
 .nil))))
 (.lt (.len 38) [112] 116 none
 (.lt (.len 140) [111] 117 none
 (.lt (.bin .neq 3 false false) [116, 117] 118 none
 (.ite 118
 (.done (.tup [J 0, 65, 66, 67, 68, 69, 70, 71, 72, 73, 74, 75, 76, 77, 78, 79, 80, 81, 82, 83, 84, 85, 86, 87, 88, 89, 90, 91, J 4]))
 (.loop 119 0 [J 0, 111, 112]
 (.cons 3
 (.lt (.len 140) [120] 122 none
 (.lt (.bin .lss 3 false false) [119, 122] 123 none
 (.ite 123
 (.lt .inb [121, 119] 124 none
 (.lt (.ldx 3 10 1) [121, 124] 125 none
 (.lt .inb [120, 119] 126 none
 (.lt (.ldx 3 1 0) [120, 126] 127 none
 (.lt (.bin .neq 3 false false) [125, 127] 128 none
 (.ite 128
 (.done (.tup [J 0, 65, 66, 67, 68, 69, 70, 71, 72, 73, 74, 75, 76, 77, 78, 79, 80, 81, 82, 83, 84, 85, 86, 87, 88, 89, 90, 91, J 4]))
 (.lt (.bin .add 3 false true) [119, J 1] 129 none
 (.again 1 0 [129, 120, 121]))))))))
 (.done (.tup [J 0, 65, 66, 67, 68, 69, 70, 71, 72, 73, 74, 75, 76, 77, 78, 79, 80, 81, 82, 83, 84, 85, 86, 87, 88, 94, 102, 121, J 0])))))
 .nil)))))))))
 .nil))
 (.loop 111 0 [.vsl 2 1 [J 1, J 4], .nsl, J 0]
 (.cons 3
 (.lt (.len 38) [91] 114 none
 (.lt (.bin .lss 3 false false) [113, 114] 115 none
 (.ite 115
 (.lt (.iaddr 38) [91, 113] 116 none
 (.lt (.load 40) [116] 117 (some 10)
 (.callF 80 ft80 [64, 117, 118, 119, 120, 121, 122, 123, 124, 125, 126] 127
 (.cons 11
 (.lt (.bin .neq 31 false true) [148, J 0] 149 none
 (.ite 149
 (.done (.tup [J 0, 65, 66, 67, 68, 69, 70, 71, 72, 73, 74, 75, 76, 77, 78, 79, 80, 81, 82, 83, 84, 85, 86, 87, 88, 89, 90, 91, 148]))
 (.lt (.len 140) [111] 150 none
 (.lt (.bin .lss 3 false false) [113, 150] 151 none
 (.ite 151
 (.lt .inb [111, 113] 152 none
 (.lt (.ldx 3 1 0) [111, 152] 153 none
 (.call 89 [.agg [138, 139, 140, 141, 142, 143, 144, 145, 146, 147], 153] 154 [(some 10)]
 (.lt (.app 10 112) [112, .agg [154, 155, 156, 157, 158, 159, 160, 161, 162, 163]] 164 none
 (.lt (.bin .add 3 false true) [113, J 1] 165 none
 (.again 0 0 [111, 164, 165]))))))
 (.lt (.app 10 112) [112, .agg [138, 139, 140, 141, 142, 143, 144, 145, 146, 147]] 152 none
 (.lt (.bin .add 3 false true) [113, J 1] 153 none
 (.again 0 0 [111, 152, 153]))))))))
 .nil))))
 (.lt (.len 38) [112] 116 none
 (.lt (.len 140) [111] 117 none
 (.lt (.bin .neq 3 false false) [116, 117] 118 none
 (.ite 118
 (.done (.tup [J 0, 65, 66, 67, 68, 69, 70, 71, 72, 73, 74, 75, 76, 77, 78, 79, 80, 81, 82, 83, 84, 85, 86, 87, 88, 89, 90, 91, J 4]))
 (.loop 119 0 [J 0, 111, 112]
 (.cons 3
 (.lt (.len 140) [120] 122 none
 (.lt (.bin .lss 3 false false) [119, 122] 123 none
 (.ite 123
 (.lt .inb [121, 119] 124 none
 (.lt (.ldx 3 10 1) [121, 124] 125 none
 (.lt .inb [120, 119] 126 none
 (.lt (.ldx 3 1 0) [120, 126] 127 none
 (.lt (.bin .neq 3 false false) [125, 127] 128 none
 (.ite 128
 (.done (.tup [J 0, 65, 66, 67, 68, 69, 70, 71, 72, 73, 74, 75, 76, 77, 78, 79, 80, 81, 82, 83, 84, 85, 86, 87, 88, 89, 90, 91, J 4]))
 (.lt (.bin .add 3 false true) [119, J 1] 129 none
 (.again 1 0 [129, 120, 121]))))))))
 (.done (.tup [J 0, 65, 66, 67, 68, 69, 70, 71, 72, 73, 74, 75, 76, 77, 78, 79, 80, 81, 82, 83, 84, 85, 86, 87, 88, 94, 102, 121, J 0])))))
 .nil)))))))))
 .nil))))))))))))))))
def c63 : VC := ⟨⟨[], []⟩, [], [], 0, true, [(80, ft80), (78, ft78), (79, ft79), (36, ft36)]⟩
def t63 : VT :=
 (.lt (.bin .eql 3 false true) [65, J 1] 92 none
 (.ite 92
 (.callF 78 ft78 [64, 65, 66, 67, 68, 69, 70, 71, 72, 73, 74, 75, 76, 77, 78, 79, 80, 81, 82, 83, 84, 85, 86, 87, 88, 89, 90, 91] 93
 (.cons 28
 (.done (.tup [J 0, 121, 122, 123, 124, 125, 126, 127, 128, 129, 130, 131, 132, 133, 134, 135, 136, 137, 138, 139, 140, 141, 142, 143, 144, 145, 146, 147, 148]))
 .nil))
 (.lt (.bin .eql 3 false true) [65, J 4] 93 none
 (.ite 93
 (.callF 79 ft79 [64, 65, 66, 67, 68, 69, 70, 71, 72, 73, 74, 75, 76, 77, 78, 79, 80, 81, 82, 83, 84, 85, 86, 87, 88, 89, 90, 91] 94
 (.cons 28
 (.done (.tup [J 0, 122, 123, 124, 125, 126, 127, 128, 129, 130, 131, 132, 133, 134, 135, 136, 137, 138, 139, 140, 141, 142, 143, 144, 145, 146, 147, 148, 149]))
 .nil))
 (.callF 80 ft80 [64, 76, 77, 78, 79, 80, 81, 82, 83, 84, 85] 94
 (.cons 11
 (.lt (.bin .neq 31 false true) [115, J 0] 116 none
 (.ite 116
 (.done (.tup [J 0, 65, 66, 67, 68, 69, 70, 71, 72, 73, 74, 75, 76, 77, 78, 79, 80, 81, 82, 83, 84, 85, 86, 87, 88, 89, 90, 91, 115]))
 (.lt (.bin .neq 3 false true) [106, J 1] 117 none
 (.ite 117
 (.done (.tup [J 0, 65, 66, 67, 68, 69, 70, 71, 72, 73, 74, 75, 76, 77, 78, 79, 80, 81, 82, 83, 84, 85, 86, 87, 88, 89, 90, 91, J 4]))
 (.callF 36 ft36 [64, 86] 118
 (.cons 2
 (.lt (.bin .neq 31 false true) [121, J 0] 122 none
 (.ite 122
 (.done (.tup [J 0, 65, 66, 67, 68, 69, 70, 71, 72, 73, 74, 75, 105, 106, 107, 108, 109, 110, 111, 112, 113, 114, 120, 87, 88, 89, 90, 91, 121]))
 (.callF 36 ft36 [64, 87] 123
 (.cons 2
 (.done (.tup [J 0, 65, 66, 67, 68, 69, 70, 71, 72, 73, 74, 75, 105, 106, 107, 108, 109, 110, 111, 112, 113, 114, 120, 125, 88, 89, 90, 91, 126]))
 .nil))))
 .nil))))))
 .nil))))))
def c36 : VC := ⟨⟨[], []⟩, [], [(0, [⟨[(6, .slx 0 27 0), (7, .slx 1 0 0), (1, 65), (0, 64)], [], 1, 2, [⟨0, 27, 0, 6, none⟩], [], []⟩])], 0, true, [(63, ft63)]⟩
def t36 : VT :=
 (.loop 66 0 [.nsl, J 0]
 (.cons 2
 (.lt (.len 25) [65] 68 none
 (.lt (.bin .lss 3 false false) [67, 68] 69 none
 (.ite 69
 (.lt (.iaddr 25) [65, 67] 70 none
 (.lt (.load 42) [70] 71 (some 27)
 (.callF 63 ft63 [64, 71, 72, 73, 74, 75, 76, 77, 78, 79, 80, 81, 82, 83, 84, 85, 86, 87, 88, 89, 90, 91, 92, 93, 94, 95, 96, 97] 98
 (.cons 28
 (.lt (.bin .neq 31 false true) [153, J 0] 154 none
 (.ite 154
 (.done (.tup [J 0, .nsl, 153]))
 (.lt (.app 27 336) [66, .agg [126, 127, 128, 129, 130, 131, 132, 133, 134, 135, 136, 137, 138, 139, 140, 141, 142, 143, 144, 145, 146, 147, 148, 149, 150, 151, 152]] 155 none
 (.lt (.bin .add 3 false true) [67, J 1] 156 none
 (.again 0 0 [155, 156])))))
 .nil))))
 (.done (.tup [J 0, 66, J 0])))))
 .nil))
theorem k88_any {nm fd : List UInt8} (h : (nm, fd) ∈ loads ∨ nm = [107]) : ∃ (s : List UInt8) (r k z a b : Int) (c : Nat) (d e : Int) (f : Nat) (g : Int), Pure Try.prog 88 [VARS, .str nm] (.tup [.agg [.str s, .int .i64 r, .int .i64 k, .int .i64 z, .int .i64 a, .int .i64 b, .flt .f64 c, .int .i64 d, .int .i64 e, .flt .f64 f], .int .i64 g, .bool true]) := by
 rcases h with h | rfl
 ·simp only [loads, List.mem_cons, Prod.mk.injEq, List.not_mem_nil, or_false] at h
  rcases h with ⟨rfl, rfl⟩ | ⟨rfl, rfl⟩ | ⟨rfl, rfl⟩ | ⟨rfl, rfl⟩ | ⟨rfl, rfl⟩ | ⟨rfl, rfl⟩ | ⟨rfl, rfl⟩ | ⟨rfl, rfl⟩ | ⟨rfl, rfl⟩ | ⟨rfl, rfl⟩ | ⟨rfl, rfl⟩
  ·exact ⟨_, _, _, _, _, _, _, _, _, _, _, k88_98⟩
  ·exact ⟨_, _, _, _, _, _, _, _, _, _, _, k88_113⟩
  ·exact ⟨_, _, _, _, _, _, _, _, _, _, _, k88_116_109⟩
  ·exact ⟨_, _, _, _, _, _, _, _, _, _, _, k88_97⟩
  ·exact ⟨_, _, _, _, _, _, _, _, _, _, _, k88_120⟩
  ·exact ⟨_, _, _, _, _, _, _, _, _, _, _, k88_111⟩
  ·exact ⟨_, _, _, _, _, _, _, _, _, _, _, k88_99⟩
  ·exact ⟨_, _, _, _, _, _, _, _, _, _, _, k88_121⟩
  ·exact ⟨_, _, _, _, _, _, _, _, _, _, _, k88_116_109⟩
  ·exact ⟨_, _, _, _, _, _, _, _, _, _, _, k88_119⟩
  ·exact ⟨_, _, _, _, _, _, _, _, _, _, _, k88_122⟩
 ·exact ⟨_, _, _, _, _, _, _, _, _, _, _, k88_107⟩
def Blk (kd ad : Int) (ks : List Int) : Prop := (kd = 6 ∧ ad = 12 ∧ ks = [1, 4]) ∨ (kd = 9 ∧ ad = 16 ∧ ks = [1, 2]) ∨ (kd = 11 ∧ ad = 19 ∧ ks = [1])
def TS : Nat → GS → Prop
 | 0, _ => False
 | d + 1, .mk op to e thn els nm kd ad args =>
   (op = 1 ∧ TX 5 to ∧ (to.op = 2 ∨ to.op = 3) ∧ TX 5 e ∧ e.kd = to.kd) ∨
   ((op = 2 ∨ op = 3) ∧ TX 5 e ∧ e.kd = 1 ∧ thn.length ≤ 5 ∧ els.length ≤ 5 ∧ (∀ s ∈ thn, TS d s) ∧ ∀ s ∈ els, TS d s) ∨
   (op = 4 ∧ Blk kd ad (args.map GX.kd) ∧ ∀ a ∈ args, TX 5 a)
def RT (d : Nat) : Nat → List AV → Prop := fun _ ws => ∃ (y : GS) (e : Int), ws = encS y ++ [.int .i64 e] ∧ (e = 0 → TS d y)
def RU (d n : Nat) : Nat → List AV → Prop := fun _ ws => ∃ (y : List GS) (e : Int), ws = [encB y, .int .i64 e] ∧ (e = 0 → y.length = n ∧ ∀ s ∈ y, TS d s)
theorem finT {d j : Nat} {y : GS} {e : Int} {hv : List AV} {Y : Sy} {L : List (Nat → List AV → Prop)} (h : denL Y.v hv = encS y ++ [.int .i64 e]) (hw : e = 0 → TS d y) : VOK Try.prog (QF (RT d)) L Y (.done (.tup (.int .i64 (.ofNat j) :: hv))) :=
 VOK_fin (by rw [h]; exact okSn y e) ⟨y, e, h, hw⟩
theorem okVX (x : GX) : okL (VARS :: encX x) = true := by rw [okL_cons]; exact okX x
theorem okVS (x : GS) : okL (VARS :: encS x) = true := by rw [okL_cons]; exact okS x
theorem p78 (d : Nat) (to e : GX) (thn els : List GS) (nm : List UInt8) (kd ad : Int) (args : List GX) (ht : WX 5 to) (ho : to.op = 2 ∨ to.op = 3) (he : WX 5 e) :
  CF Try.prog 78 ft78 (VARS :: encS (.mk 1 to e thn els nm kd ad args)) (RT (d + 1)) := by
 have h1 := p80 5 to ht
 have h2 := p80 5 e he
 obtain ⟨to1, to2, to3, to4, to5, to6, to7, to8, to9, to10⟩ := to
 obtain ⟨e1, e2, e3, e4, e5, e6, e7, e8, e9, e10⟩ := e
 refine cf_tree (c := c78) (n := 300) (t := t78) mo ov rfl (fun Y _ => known0 _) (by kernel_rfl) fun Y hf hg => ?_
 unfold t78
 refine callF' h2 rfl (okVX _) ⟨?_, trivial⟩
 rintro ws ⟨⟨y1, y2, y3, y4, y5, y6, y7, y8, y9, y10⟩, er, rfl, hy⟩
 (refine it_c rfl rfl (fun h => ?_) (fun h => ?_) <;> simp only [Cmp, Decidable.not_not, Int.not_lt, Int.not_le] at h <;> try (exfalso; first | exact h trivial | omega))
 ·(exact finT (y := .mk _ (.mk _ _ _ _ _ _ _ _ _ _) (.mk _ _ _ _ _ _ _ _ _ _) _ _ _ _ _ _) rfl (fun he => absurd he (by first | assumption | decide)))
 have hy := (hy h).1
 refine callF' h1 rfl (okVX _) ⟨?_, trivial⟩
 rintro ws ⟨⟨z1, z2, z3, z4, z5, z6, z7, z8, z9, z10⟩, er2, rfl, hz⟩
 (refine it_c rfl rfl (fun h => ?_) (fun h => ?_) <;> simp only [Cmp, Decidable.not_not, Int.not_lt, Int.not_le] at h <;> try (exfalso; first | exact h trivial | omega))
 ·(exact finT (y := .mk _ (.mk _ _ _ _ _ _ _ _ _ _) (.mk _ _ _ _ _ _ _ _ _ _) _ _ _ _ _ _) rfl (fun he => absurd he (by first | assumption | decide)))
 have hz := hz h
 obtain ⟨s, r, k, z, a, b, c, d', e', f, g, hp⟩ := k88_any (nm := to3) (fd := to4) (by
  have ht' : Nod to1 to2 to3 to4 to7 to8 to9 := ht.2.2.1
  rcases ho with ho | ho
  ·exact .inl (ht'.2.1 ho)
  ·exact .inr (ht'.2.2.1 ho))
 refine VOK_call hp rfl rfl ?_
 refine VOK_lt (run_nes ..) rfl (VOK_ite rfl (fun h => ?_) (fun h => ?_))
 ·(exact finT (y := .mk _ (.mk _ _ _ _ _ _ _ _ _ _) (.mk _ _ _ _ _ _ _ _ _ _) _ _ _ _ _ _) rfl (fun he => absurd he (by first | assumption | decide)))
 (refine it_c rfl rfl (fun h => ?_) (fun h => ?_) <;> simp only [Cmp, Decidable.not_not, Int.not_lt, Int.not_le] at h <;> try (exfalso; first | exact h trivial | omega))
 ·(exact finT (y := .mk _ (.mk _ _ _ _ _ _ _ _ _ _) (.mk _ _ _ _ _ _ _ _ _ _) _ _ _ _ _ _) rfl (fun he => absurd he (by first | assumption | decide)))
 obtain ⟨⟨yo1, yk1, ynm1, yfd1, yad1, yn1, yvk1, yvi1, yvf1, ya1⟩, hp1, hy1⟩ := p89 _ z2 hy
 refine VOK_call hp1 rfl (okXe _) ?_
 (refine it_c rfl rfl (fun h => ?_) (fun h => ?_) <;> simp only [Cmp, Decidable.not_not, Int.not_lt, Int.not_le] at h <;> try (exfalso; first | exact h trivial | omega))
 ·(exact finT (y := .mk _ (.mk _ _ _ _ _ _ _ _ _ _) (.mk _ _ _ _ _ _ _ _ _ _) _ _ _ _ _ _) rfl (fun he => absurd he (by first | assumption | decide)))
 ·exact finT (y := .mk 1 (.mk _ _ _ _ _ _ _ _ _ _) (.mk _ _ _ _ _ _ _ _ _ _) _ _ _ _ _ _) rfl (fun _ => .inl ⟨rfl, hz.1, by rw [hz.2]; exact ho, hy1, h⟩)
theorem addX {d : Nat} {acc : List GX} {y : GX} (h : ∀ a ∈ acc, TX d a) (hy : TX d y) : ∀ a ∈ acc ++ [y], TX d a := fun a ha => by
 rcases List.mem_append.1 ha with ha | ha
 ·exact h a ha
 ·cases List.mem_singleton.1 ha; exact hy
theorem p79 (d : Nat) (to e : GX) (thn els : List GS) (nm : List UInt8) (kd ad : Int) (args : List GX) (hn : nm = [116, 109] ∨ nm = [99] ∨ nm = [101]) (hl : args.length ≤ 2) (hW : ∀ a ∈ args, WX 5 a) :
  CF Try.prog 79 ft79 (VARS :: encS (.mk 4 to e thn els nm kd ad args)) (RT (d + 1)) := by
 obtain ⟨to1, to2, to3, to4, to5, to6, to7, to8, to9, to10⟩ := to
 obtain ⟨e1, e2, e3, e4, e5, e6, e7, e8, e9, e10⟩ := e
 refine cf_tree (c := c79) (n := 300) (t := t79) mo ov rfl (fun Y _ => known0 _) (by kernel_rfl) fun Y hf hg => ?_
 unfold t79
 rcases hn with rfl | rfl | rfl
 ·refine VOK_call k88_116_109 rfl rfl (VOK_lt rfl rfl (VOK_ite rfl (fun h => by cases h) (fun _ => VOK_call k46_6 rfl rfl ?_)))
  (refine it_c rfl rfl (fun h => ?_) (fun h => ?_) <;> simp only [Cmp, Decidable.not_not, Int.not_lt, Int.not_le] at h <;> try (exfalso; first | exact h trivial | omega)); (refine it_c rfl rfl (fun h => ?_) (fun h => ?_) <;> simp only [Cmp, Decidable.not_not, Int.not_lt, Int.not_le] at h <;> try (exfalso; first | exact h trivial | omega)); (refine it_c rfl rfl (fun h => ?_) (fun h => ?_) <;> simp only [Cmp, Decidable.not_not, Int.not_lt, Int.not_le] at h <;> try (exfalso; first | exact h trivial | omega)); (refine it_c rfl rfl (fun h => ?_) (fun h => ?_) <;> simp only [Cmp, Decidable.not_not, Int.not_lt, Int.not_le] at h <;> try (exfalso; first | exact h trivial | omega)); (refine it_c rfl rfl (fun h => ?_) (fun h => ?_) <;> simp only [Cmp, Decidable.not_not, Int.not_lt, Int.not_le] at h <;> try (exfalso; first | exact h trivial | omega))
  (
   refine VOK_loop (ι := List GX × Nat) (fun s => [(.vsl 2 1 [.int .i64 1, .int .i64 4]), encA s.1, .int .i64 (s.2 : Int)]) (fun s => s.1.length = s.2 ∧ s.2 ≤ args.length ∧ ∀ a ∈ s.1, TX 5 a) (fun s => args.length - s.2) ([], 0) ⟨rfl, Nat.zero_le _, fun a ha => (List.not_mem_nil ha).elim⟩ rfl (fun s _ => by simp only [okL, okC, okA]) (fun s s' _ _ h => by simp at h; omega) (fun s hs => ?_)
   obtain ⟨acc, i⟩ := s
   obtain ⟨h1, h2, h3⟩ := hs
   simp only at h1 h2 h3 ⊢
   refine VOK_lt (run_len38 args) rfl ?_
   (refine it_c rfl rfl (fun h => ?_) (fun h => ?_) <;> simp only [Cmp, Decidable.not_not, Int.not_lt, Int.not_le] at h <;> try (exfalso; first | exact h trivial | omega))
   ·have hi : i < args.length := by omega
    have hld := run_ld40 args hi
    have hz := p80 5 args[i] (hW _ (List.getElem_mem hi))
    rcases hzz : args[i] with ⟨zo, zk, znm, zfd, zad, zn, zvk, zvi, zvf, za⟩
    rw [hzz] at hld hz
    refine VOK_lt (run_ia38 args hi) (encL_ok okX _) (VOK_ltN hld rfl (okX _) ?_)
    refine callF' hz rfl (okVX _) ⟨?_, trivial⟩
    rintro ws ⟨⟨yo, yk, ynm, yfd, yad, yn, yvk, yvi, yvf, ya⟩, e, rfl, hy⟩
    (refine it_c rfl rfl (fun h => ?_) (fun h => ?_) <;> simp only [Cmp, Decidable.not_not, Int.not_lt, Int.not_le] at h <;> try (exfalso; first | exact h trivial | omega))
    ·(exact finT (y := .mk _ (.mk _ _ _ _ _ _ _ _ _ _) (.mk _ _ _ _ _ _ _ _ _ _) _ _ _ _ _ _) rfl (fun he => absurd he (by first | assumption | decide)))
    have hy := (hy h).1
    refine VOK_lt (r := .int .i64 2) rfl rfl ?_
    (refine it_c rfl rfl (fun h => ?_) (fun h => ?_) <;> simp only [Cmp, Decidable.not_not, Int.not_lt, Int.not_le] at h <;> try (exfalso; first | exact h trivial | omega))
    all_goals first
     | (have hi2 : i = 0 ∨ i = 1 := by omega
        rcases hi2 with rfl | rfl
        all_goals try (exfalso; omega)
        all_goals
         refine VOK_lt rfl rfl (VOK_lt rfl rfl ?_)
         obtain ⟨⟨yo1, yk1, ynm1, yfd1, yad1, yn1, yvk1, yvi1, yvf1, ya1⟩, hp1, hy1⟩ := p89 _ _ hy
         refine VOK_call hp1 rfl (okXe _) ?_
         refine VOK_lt (run_app10 acc (.mk yo1 yk1 ynm1 yfd1 yad1 yn1 yvk1 yvi1 yvf1 ya1) (by omega)) (okA _) (VOK_lt (add_c (by omega) (by omega)) rfl (VOK_again rfl ⟨(acc ++ [_], _), ⟨by rw [List.length_append, h1]; rfl, hi, addX h3 hy1⟩, rfl, by simp only; omega⟩)))
     | exact VOK_lt (run_app10 acc (.mk yo yk ynm yfd yad yn yvk yvi yvf ya) (by omega)) (okA _) (VOK_lt (add_c (by omega) (by omega)) rfl (VOK_again rfl ⟨(acc ++ [_], i + 1), ⟨by rw [List.length_append, h1]; rfl, hi, addX h3 hy⟩, rfl, by simp only; omega⟩))
   have hi : i = args.length := by omega
   subst hi
   refine VOK_lt (run_len38 acc) rfl (VOK_lt (r := .int .i64 2) rfl rfl ?_))
  (refine it_c rfl rfl (fun h => ?_) (fun h => ?_) <;> simp only [Cmp, Decidable.not_not, Int.not_lt, Int.not_le] at h <;> try (exfalso; first | exact h trivial | omega))
  ·(exact finT (y := .mk _ (.mk _ _ _ _ _ _ _ _ _ _) (.mk _ _ _ _ _ _ _ _ _ _) _ _ _ _ _ _) rfl (fun he => absurd he (by first | assumption | decide)))
  have ha : acc.length = 2 := by
   have h' : (acc.length : Int) = 2 := h
   omega
  obtain ⟨y, z, rfl⟩ : ∃ y z, acc = [y, z] := by
   rcases acc with _ | ⟨y, _ | ⟨z, _ | ⟨w, t⟩⟩⟩ <;> simp at ha
   exact ⟨y, z, rfl⟩
  obtain ⟨y1, y2, y3, y4, y5, y6, y7, y8, y9, y10⟩ := y
  obtain ⟨z1, z2, z3, z4, z5, z6, z7, z8, z9, z10⟩ := z
  refine VOK_loop (ι := Nat) (fun i => [.int .i64 (i : Int), .vsl 2 1 [.int .i64 1, .int .i64 4], encA [.mk y1 y2 y3 y4 y5 y6 y7 y8 y9 y10, .mk z1 z2 z3 z4 z5 z6 z7 z8 z9 z10]]) (fun i => i ≤ 2 ∧ (1 ≤ i → y2 = 1) ∧ (2 ≤ i → z2 = 4)) (fun i => 2 - i) 0 ⟨by decide, fun h => by omega, fun h => by omega⟩ rfl (fun s _ => by simp only [okL, okC, okA]) (fun s s' _ _ h => by simp at h; omega) (fun i hi => ?_)
  obtain ⟨i1, i2, i3⟩ := hi
  refine VOK_lt (r := .int .i64 2) rfl rfl ?_
  (refine it_c rfl rfl (fun h => ?_) (fun h => ?_) <;> simp only [Cmp, Decidable.not_not, Int.not_lt, Int.not_le] at h <;> try (exfalso; first | exact h trivial | omega))
  ·have hi2 : i = 0 ∨ i = 1 := by omega
   rcases hi2 with rfl | rfl
   ·refine VOK_lt (r := .int .i64 0) rfl rfl (VOK_lt (r := .int .i64 y2) rfl rfl (VOK_lt (r := .int .i64 0) rfl rfl (VOK_lt (r := .int .i64 1) rfl rfl ?_)))
    (refine it_c rfl rfl (fun h => ?_) (fun h => ?_) <;> simp only [Cmp, Decidable.not_not, Int.not_lt, Int.not_le] at h <;> try (exfalso; first | exact h trivial | omega))
    ·(exact finT (y := .mk _ (.mk _ _ _ _ _ _ _ _ _ _) (.mk _ _ _ _ _ _ _ _ _ _) _ _ _ _ _ _) rfl (fun he => absurd he (by first | assumption | decide)))
    ·exact VOK_lt (add_c (by omega) (by omega)) rfl (VOK_again rfl ⟨1, ⟨by decide, fun _ => h, fun h => by omega⟩, rfl, by decide⟩)
   ·refine VOK_lt (r := .int .i64 1) rfl rfl (VOK_lt (r := .int .i64 z2) rfl rfl (VOK_lt (r := .int .i64 1) rfl rfl (VOK_lt (r := .int .i64 4) rfl rfl ?_)))
    (refine it_c rfl rfl (fun h => ?_) (fun h => ?_) <;> simp only [Cmp, Decidable.not_not, Int.not_lt, Int.not_le] at h <;> try (exfalso; first | exact h trivial | omega))
    ·(exact finT (y := .mk _ (.mk _ _ _ _ _ _ _ _ _ _) (.mk _ _ _ _ _ _ _ _ _ _) _ _ _ _ _ _) rfl (fun he => absurd he (by first | assumption | decide)))
    ·exact VOK_lt (add_c (by omega) (by omega)) rfl (VOK_again rfl ⟨2, ⟨by decide, fun _ => i2 (by decide), fun _ => h⟩, rfl, by decide⟩)
  ·refine finT (y := .mk 4 (.mk _ _ _ _ _ _ _ _ _ _) (.mk _ _ _ _ _ _ _ _ _ _) _ _ _ _ _ [.mk _ _ _ _ _ _ _ _ _ _, .mk _ _ _ _ _ _ _ _ _ _]) rfl (fun _ => .inr (.inr ⟨rfl, ?_, h3⟩))
   cases i2 (by omega)
   cases i3 (by omega)
   exact .inl ⟨rfl, rfl, rfl⟩
 ·refine VOK_call k88_99 rfl rfl (VOK_lt rfl rfl (VOK_ite rfl (fun h => by cases h) (fun _ => VOK_call k46_9 rfl rfl ?_)))
  repeat (refine it_c rfl rfl (fun h => ?_) (fun h => ?_) <;> simp only [Cmp, Decidable.not_not, Int.not_lt, Int.not_le] at h <;> try (exfalso; first | exact h trivial | omega))
  (
   refine VOK_loop (ι := List GX × Nat) (fun s => [(.vsl 2 1 [.int .i64 1, .int .i64 2]), encA s.1, .int .i64 (s.2 : Int)]) (fun s => s.1.length = s.2 ∧ s.2 ≤ args.length ∧ ∀ a ∈ s.1, TX 5 a) (fun s => args.length - s.2) ([], 0) ⟨rfl, Nat.zero_le _, fun a ha => (List.not_mem_nil ha).elim⟩ rfl (fun s _ => by simp only [okL, okC, okA]) (fun s s' _ _ h => by simp at h; omega) (fun s hs => ?_)
   obtain ⟨acc, i⟩ := s
   obtain ⟨h1, h2, h3⟩ := hs
   simp only at h1 h2 h3 ⊢
   refine VOK_lt (run_len38 args) rfl ?_
   (refine it_c rfl rfl (fun h => ?_) (fun h => ?_) <;> simp only [Cmp, Decidable.not_not, Int.not_lt, Int.not_le] at h <;> try (exfalso; first | exact h trivial | omega))
   ·have hi : i < args.length := by omega
    have hld := run_ld40 args hi
    have hz := p80 5 args[i] (hW _ (List.getElem_mem hi))
    rcases hzz : args[i] with ⟨zo, zk, znm, zfd, zad, zn, zvk, zvi, zvf, za⟩
    rw [hzz] at hld hz
    refine VOK_lt (run_ia38 args hi) (encL_ok okX _) (VOK_ltN hld rfl (okX _) ?_)
    refine callF' hz rfl (okVX _) ⟨?_, trivial⟩
    rintro ws ⟨⟨yo, yk, ynm, yfd, yad, yn, yvk, yvi, yvf, ya⟩, e, rfl, hy⟩
    (refine it_c rfl rfl (fun h => ?_) (fun h => ?_) <;> simp only [Cmp, Decidable.not_not, Int.not_lt, Int.not_le] at h <;> try (exfalso; first | exact h trivial | omega))
    ·(exact finT (y := .mk _ (.mk _ _ _ _ _ _ _ _ _ _) (.mk _ _ _ _ _ _ _ _ _ _) _ _ _ _ _ _) rfl (fun he => absurd he (by first | assumption | decide)))
    have hy := (hy h).1
    refine VOK_lt (r := .int .i64 2) rfl rfl ?_
    (refine it_c rfl rfl (fun h => ?_) (fun h => ?_) <;> simp only [Cmp, Decidable.not_not, Int.not_lt, Int.not_le] at h <;> try (exfalso; first | exact h trivial | omega))
    all_goals first
     | (have hi2 : i = 0 ∨ i = 1 := by omega
        rcases hi2 with rfl | rfl
        all_goals try (exfalso; omega)
        all_goals
         refine VOK_lt rfl rfl (VOK_lt rfl rfl ?_)
         obtain ⟨⟨yo1, yk1, ynm1, yfd1, yad1, yn1, yvk1, yvi1, yvf1, ya1⟩, hp1, hy1⟩ := p89 _ _ hy
         refine VOK_call hp1 rfl (okXe _) ?_
         refine VOK_lt (run_app10 acc (.mk yo1 yk1 ynm1 yfd1 yad1 yn1 yvk1 yvi1 yvf1 ya1) (by omega)) (okA _) (VOK_lt (add_c (by omega) (by omega)) rfl (VOK_again rfl ⟨(acc ++ [_], _), ⟨by rw [List.length_append, h1]; rfl, hi, addX h3 hy1⟩, rfl, by simp only; omega⟩)))
     | exact VOK_lt (run_app10 acc (.mk yo yk ynm yfd yad yn yvk yvi yvf ya) (by omega)) (okA _) (VOK_lt (add_c (by omega) (by omega)) rfl (VOK_again rfl ⟨(acc ++ [_], i + 1), ⟨by rw [List.length_append, h1]; rfl, hi, addX h3 hy⟩, rfl, by simp only; omega⟩))
   have hi : i = args.length := by omega
   subst hi
   refine VOK_lt (run_len38 acc) rfl (VOK_lt (r := .int .i64 2) rfl rfl ?_))
  (refine it_c rfl rfl (fun h => ?_) (fun h => ?_) <;> simp only [Cmp, Decidable.not_not, Int.not_lt, Int.not_le] at h <;> try (exfalso; first | exact h trivial | omega))
  ·(exact finT (y := .mk _ (.mk _ _ _ _ _ _ _ _ _ _) (.mk _ _ _ _ _ _ _ _ _ _) _ _ _ _ _ _) rfl (fun he => absurd he (by first | assumption | decide)))
  have ha : acc.length = 2 := by
   have h' : (acc.length : Int) = 2 := h
   omega
  obtain ⟨y, z, rfl⟩ : ∃ y z, acc = [y, z] := by
   rcases acc with _ | ⟨y, _ | ⟨z, _ | ⟨w, t⟩⟩⟩ <;> simp at ha
   exact ⟨y, z, rfl⟩
  obtain ⟨y1, y2, y3, y4, y5, y6, y7, y8, y9, y10⟩ := y
  obtain ⟨z1, z2, z3, z4, z5, z6, z7, z8, z9, z10⟩ := z
  refine VOK_loop (ι := Nat) (fun i => [.int .i64 (i : Int), .vsl 2 1 [.int .i64 1, .int .i64 2], encA [.mk y1 y2 y3 y4 y5 y6 y7 y8 y9 y10, .mk z1 z2 z3 z4 z5 z6 z7 z8 z9 z10]]) (fun i => i ≤ 2 ∧ (1 ≤ i → y2 = 1) ∧ (2 ≤ i → z2 = 2)) (fun i => 2 - i) 0 ⟨by decide, fun h => by omega, fun h => by omega⟩ rfl (fun s _ => by simp only [okL, okC, okA]) (fun s s' _ _ h => by simp at h; omega) (fun i hi => ?_)
  obtain ⟨i1, i2, i3⟩ := hi
  refine VOK_lt (r := .int .i64 2) rfl rfl ?_
  (refine it_c rfl rfl (fun h => ?_) (fun h => ?_) <;> simp only [Cmp, Decidable.not_not, Int.not_lt, Int.not_le] at h <;> try (exfalso; first | exact h trivial | omega))
  ·have hi2 : i = 0 ∨ i = 1 := by omega
   rcases hi2 with rfl | rfl
   ·refine VOK_lt (r := .int .i64 0) rfl rfl (VOK_lt (r := .int .i64 y2) rfl rfl (VOK_lt (r := .int .i64 0) rfl rfl (VOK_lt (r := .int .i64 1) rfl rfl ?_)))
    (refine it_c rfl rfl (fun h => ?_) (fun h => ?_) <;> simp only [Cmp, Decidable.not_not, Int.not_lt, Int.not_le] at h <;> try (exfalso; first | exact h trivial | omega))
    ·(exact finT (y := .mk _ (.mk _ _ _ _ _ _ _ _ _ _) (.mk _ _ _ _ _ _ _ _ _ _) _ _ _ _ _ _) rfl (fun he => absurd he (by first | assumption | decide)))
    ·exact VOK_lt (add_c (by omega) (by omega)) rfl (VOK_again rfl ⟨1, ⟨by decide, fun _ => h, fun h => by omega⟩, rfl, by decide⟩)
   ·refine VOK_lt (r := .int .i64 1) rfl rfl (VOK_lt (r := .int .i64 z2) rfl rfl (VOK_lt (r := .int .i64 1) rfl rfl (VOK_lt (r := .int .i64 2) rfl rfl ?_)))
    (refine it_c rfl rfl (fun h => ?_) (fun h => ?_) <;> simp only [Cmp, Decidable.not_not, Int.not_lt, Int.not_le] at h <;> try (exfalso; first | exact h trivial | omega))
    ·(exact finT (y := .mk _ (.mk _ _ _ _ _ _ _ _ _ _) (.mk _ _ _ _ _ _ _ _ _ _) _ _ _ _ _ _) rfl (fun he => absurd he (by first | assumption | decide)))
    ·exact VOK_lt (add_c (by omega) (by omega)) rfl (VOK_again rfl ⟨2, ⟨by decide, fun _ => i2 (by decide), fun _ => h⟩, rfl, by decide⟩)
  ·refine finT (y := .mk 4 (.mk _ _ _ _ _ _ _ _ _ _) (.mk _ _ _ _ _ _ _ _ _ _) _ _ _ _ _ [.mk _ _ _ _ _ _ _ _ _ _, .mk _ _ _ _ _ _ _ _ _ _]) rfl (fun _ => .inr (.inr ⟨rfl, ?_, h3⟩))
   cases i2 (by omega)
   cases i3 (by omega)
   exact .inr (.inl ⟨rfl, rfl, rfl⟩)
 ·refine VOK_call k88_101 rfl rfl (VOK_lt rfl rfl (VOK_ite rfl (fun h => by cases h) (fun _ => VOK_call k46_11 rfl rfl ?_)))
  repeat (refine it_c rfl rfl (fun h => ?_) (fun h => ?_) <;> simp only [Cmp, Decidable.not_not, Int.not_lt, Int.not_le] at h <;> try (exfalso; first | exact h trivial | omega))
  (
   refine VOK_loop (ι := List GX × Nat) (fun s => [(.vsl 1 1 [.int .i64 1]), encA s.1, .int .i64 (s.2 : Int)]) (fun s => s.1.length = s.2 ∧ s.2 ≤ args.length ∧ ∀ a ∈ s.1, TX 5 a) (fun s => args.length - s.2) ([], 0) ⟨rfl, Nat.zero_le _, fun a ha => (List.not_mem_nil ha).elim⟩ rfl (fun s _ => by simp only [okL, okC, okA]) (fun s s' _ _ h => by simp at h; omega) (fun s hs => ?_)
   obtain ⟨acc, i⟩ := s
   obtain ⟨h1, h2, h3⟩ := hs
   simp only at h1 h2 h3 ⊢
   refine VOK_lt (run_len38 args) rfl ?_
   (refine it_c rfl rfl (fun h => ?_) (fun h => ?_) <;> simp only [Cmp, Decidable.not_not, Int.not_lt, Int.not_le] at h <;> try (exfalso; first | exact h trivial | omega))
   ·have hi : i < args.length := by omega
    have hld := run_ld40 args hi
    have hz := p80 5 args[i] (hW _ (List.getElem_mem hi))
    rcases hzz : args[i] with ⟨zo, zk, znm, zfd, zad, zn, zvk, zvi, zvf, za⟩
    rw [hzz] at hld hz
    refine VOK_lt (run_ia38 args hi) (encL_ok okX _) (VOK_ltN hld rfl (okX _) ?_)
    refine callF' hz rfl (okVX _) ⟨?_, trivial⟩
    rintro ws ⟨⟨yo, yk, ynm, yfd, yad, yn, yvk, yvi, yvf, ya⟩, e, rfl, hy⟩
    (refine it_c rfl rfl (fun h => ?_) (fun h => ?_) <;> simp only [Cmp, Decidable.not_not, Int.not_lt, Int.not_le] at h <;> try (exfalso; first | exact h trivial | omega))
    ·(exact finT (y := .mk _ (.mk _ _ _ _ _ _ _ _ _ _) (.mk _ _ _ _ _ _ _ _ _ _) _ _ _ _ _ _) rfl (fun he => absurd he (by first | assumption | decide)))
    have hy := (hy h).1
    refine VOK_lt (r := .int .i64 1) rfl rfl ?_
    (refine it_c rfl rfl (fun h => ?_) (fun h => ?_) <;> simp only [Cmp, Decidable.not_not, Int.not_lt, Int.not_le] at h <;> try (exfalso; first | exact h trivial | omega))
    all_goals first
     | (have hi2 : i = 0 ∨ i = 1 := by omega
        rcases hi2 with rfl | rfl
        all_goals try (exfalso; omega)
        all_goals
         refine VOK_lt rfl rfl (VOK_lt rfl rfl ?_)
         obtain ⟨⟨yo1, yk1, ynm1, yfd1, yad1, yn1, yvk1, yvi1, yvf1, ya1⟩, hp1, hy1⟩ := p89 _ _ hy
         refine VOK_call hp1 rfl (okXe _) ?_
         refine VOK_lt (run_app10 acc (.mk yo1 yk1 ynm1 yfd1 yad1 yn1 yvk1 yvi1 yvf1 ya1) (by omega)) (okA _) (VOK_lt (add_c (by omega) (by omega)) rfl (VOK_again rfl ⟨(acc ++ [_], _), ⟨by rw [List.length_append, h1]; rfl, hi, addX h3 hy1⟩, rfl, by simp only; omega⟩)))
     | exact VOK_lt (run_app10 acc (.mk yo yk ynm yfd yad yn yvk yvi yvf ya) (by omega)) (okA _) (VOK_lt (add_c (by omega) (by omega)) rfl (VOK_again rfl ⟨(acc ++ [_], i + 1), ⟨by rw [List.length_append, h1]; rfl, hi, addX h3 hy⟩, rfl, by simp only; omega⟩))
   have hi : i = args.length := by omega
   subst hi
   refine VOK_lt (run_len38 acc) rfl (VOK_lt (r := .int .i64 1) rfl rfl ?_))
  (refine it_c rfl rfl (fun h => ?_) (fun h => ?_) <;> simp only [Cmp, Decidable.not_not, Int.not_lt, Int.not_le] at h <;> try (exfalso; first | exact h trivial | omega))
  ·(exact finT (y := .mk _ (.mk _ _ _ _ _ _ _ _ _ _) (.mk _ _ _ _ _ _ _ _ _ _) _ _ _ _ _ _) rfl (fun he => absurd he (by first | assumption | decide)))
  have ha : acc.length = 1 := by
   have h' : (acc.length : Int) = 1 := h
   omega
  obtain ⟨y, rfl⟩ := List.length_eq_one_iff.1 ha
  obtain ⟨y1, y2, y3, y4, y5, y6, y7, y8, y9, y10⟩ := y
  refine VOK_loop (ι := Nat) (fun i => [.int .i64 (i : Int), .vsl 1 1 [.int .i64 1], encA [.mk y1 y2 y3 y4 y5 y6 y7 y8 y9 y10]]) (fun i => i ≤ 1 ∧ (1 ≤ i → y2 = 1)) (fun i => 1 - i) 0 ⟨by decide, fun h => by omega⟩ rfl (fun s _ => by simp only [okL, okC, okA]) (fun s s' _ _ h => by simp at h; omega) (fun i hi => ?_)
  obtain ⟨i1, i2⟩ := hi
  refine VOK_lt (r := .int .i64 1) rfl rfl ?_
  (refine it_c rfl rfl (fun h => ?_) (fun h => ?_) <;> simp only [Cmp, Decidable.not_not, Int.not_lt, Int.not_le] at h <;> try (exfalso; first | exact h trivial | omega))
  ·have hi2 : i = 0 := by omega
   subst hi2
   refine VOK_lt (r := .int .i64 0) rfl rfl (VOK_lt (r := .int .i64 y2) rfl rfl (VOK_lt (r := .int .i64 0) rfl rfl (VOK_lt (r := .int .i64 1) rfl rfl ?_)))
   (refine it_c rfl rfl (fun h => ?_) (fun h => ?_) <;> simp only [Cmp, Decidable.not_not, Int.not_lt, Int.not_le] at h <;> try (exfalso; first | exact h trivial | omega))
   ·(exact finT (y := .mk _ (.mk _ _ _ _ _ _ _ _ _ _) (.mk _ _ _ _ _ _ _ _ _ _) _ _ _ _ _ _) rfl (fun he => absurd he (by first | assumption | decide)))
   ·exact VOK_lt (add_c (by omega) (by omega)) rfl (VOK_again rfl ⟨1, ⟨by decide, fun _ => h⟩, rfl, by decide⟩)
  ·refine finT (y := .mk 4 (.mk _ _ _ _ _ _ _ _ _ _) (.mk _ _ _ _ _ _ _ _ _ _) _ _ _ _ _ [.mk _ _ _ _ _ _ _ _ _ _]) rfl (fun _ => .inr (.inr ⟨rfl, ?_, h3⟩))
   cases i2 (by omega)
   exact .inr (.inr ⟨rfl, rfl, rfl⟩)
theorem run_len25 (l : List GS) : (XOp.len 25).run Try.prog [encB l] = some (.int .i64 (l.length : Int)) := by rw [encB_eq]; exact run_len_sl Try.underlying25 l
theorem run_ia25 (l : List GS) {i : Nat} (h : i < l.length) : (XOp.iaddr 25).run Try.prog [encB l, .int .i64 (i : Int)] = some (.vptr (encL encS (l.drop i))) := by
 rw [encB_eq]; exact run_iaddr_sl (e := 42) (ti := (Try.prog.info? 42).get!) Try.underlying25 (by kernel_rfl) (by kernel_rfl) lenS h .i64
theorem run_ld42 (l : List GS) {i : Nat} (h : i < l.length) : (XOp.load 42).run Try.prog [.vptr (encL encS (l.drop i))] = some (.agg (encS l[i])) :=
 run_load_agg (ti := (Try.prog.info? 42).get!) Try.underlying42 rfl (by kernel_rfl) (by kernel_rfl) lenS h
def PT (d : Nat) : Prop := ∀ x : GS, WS d x → CF Try.prog 63 ft63 (VARS :: encS x) (RT d)
theorem p36 (d : Nat) (hT : PT d) (l : List GS) (hl : l.length ≤ 5) (hW : ∀ s ∈ l, WS d s) : CF Try.prog 36 ft36 [VARS, encB l] (RU d l.length) := by
 refine cf_tree (c := c36) (n := 300) (t := t36) mo ov rfl (fun Y _ => known0 _) (by kernel_rfl) fun Y hf hg => ?_
 unfold t36
 refine VOK_loop (ι := List GS × Nat) (fun s => [encB s.1, .int .i64 (s.2 : Int)]) (fun s => s.1.length = s.2 ∧ s.2 ≤ l.length ∧ ∀ a ∈ s.1, TS d a) (fun s => l.length - s.2) ([], 0) ⟨rfl, Nat.zero_le _, fun a ha => (List.not_mem_nil ha).elim⟩ rfl (fun s _ => by simp only [okL, okC, okB]) (fun s s' _ _ h => by simp at h; omega) (fun s hs => ?_)
 obtain ⟨acc, i⟩ := s
 obtain ⟨h1, h2, h3⟩ := hs
 simp only at h1 h2 h3 ⊢
 refine VOK_lt (run_len25 l) rfl ?_
 (refine it_c rfl rfl (fun h => ?_) (fun h => ?_) <;> simp only [Cmp, Decidable.not_not, Int.not_lt, Int.not_le] at h <;> try (exfalso; first | exact h trivial | omega))
 ·have hi : i < l.length := by omega
  have hld := run_ld42 l hi
  have hz := hT l[i] (hW _ (List.getElem_mem hi))
  rcases hzz : l[i] with ⟨op, ⟨to1, to2, to3, to4, to5, to6, to7, to8, to9, to10⟩, ⟨e1, e2, e3, e4, e5, e6, e7, e8, e9, e10⟩, thn, els, nm, kd, ad, args⟩
  rw [hzz] at hld hz
  refine VOK_lt (run_ia25 l hi) (encL_ok okS _) (VOK_ltN hld rfl (okS _) ?_)
  refine callF' hz rfl (okVS _) ⟨?_, trivial⟩
  rintro ws ⟨⟨op', ⟨so1, so2, so3, so4, so5, so6, so7, so8, so9, so10⟩, ⟨f1, f2, f3, f4, f5, f6, f7, f8, f9, f10⟩, thn', els', nm', kd', ad', args'⟩, e, rfl, hy⟩
  (refine it_c rfl rfl (fun h => ?_) (fun h => ?_) <;> simp only [Cmp, Decidable.not_not, Int.not_lt, Int.not_le] at h <;> try (exfalso; first | exact h trivial | omega))
  ·exact VOK_fin rfl ⟨[], e, rfl, fun he => absurd he h⟩
  ·rename_i hh
   refine VOK_lt (run_app27 acc (.mk op' (.mk so1 so2 so3 so4 so5 so6 so7 so8 so9 so10) (.mk f1 f2 f3 f4 f5 f6 f7 f8 f9 f10) thn' els' nm' kd' ad' args') (by omega)) (okB _) (VOK_lt (add_c (by omega) (by omega)) rfl (VOK_again rfl ⟨(acc ++ [_], i + 1), ⟨by rw [List.length_append, h1]; rfl, hi, ?_⟩, rfl, by simp only; omega⟩))
   intro a ha
   rcases List.mem_append.1 ha with ha | ha
   ·exact h3 a ha
   ·cases List.mem_singleton.1 ha; exact hy (by assumption)
 ·exact VOK_fin (by show okL [encB acc, .int .i64 0] = true; simp only [okL, okC, okB]) ⟨acc, 0, rfl, fun _ => ⟨by omega, h3⟩⟩
theorem okVB (l : List GS) : okL [VARS, encB l] = true := by rw [okL_cons]; simp only [okL, okC, okB]; rfl
theorem p63 : ∀ d : Nat, PT d
 | 0, _, h => h.elim
 | d + 1, .mk op to e thn els nm kd ad args, hx => by
   have ih := p36 d (p63 d)
   have h1 : op = 1 → _ := fun h => p78 d to e thn els nm kd ad args
   have h4 := p79 d to e thn els nm kd ad args
   have h2 := p80 5 e
   obtain ⟨to1, to2, to3, to4, to5, to6, to7, to8, to9, to10⟩ := to
   obtain ⟨e1, e2, e3, e4, e5, e6, e7, e8, e9, e10⟩ := e
   refine cf_tree (c := c63) (n := 300) (t := t63) mo ov rfl (fun Y _ => known0 _) (by kernel_rfl) fun Y hf hg => ?_
   unfold t63
   rcases hx with ⟨rfl, a1, a2, a3⟩ | ⟨ho, b1, b2, b3, b4, b5⟩ | ⟨rfl, a1, a2, a3⟩
   ·(refine it_c rfl rfl (fun h => ?_) (fun h => ?_) <;> simp only [Cmp, Decidable.not_not, Int.not_lt, Int.not_le] at h <;> try (exfalso; first | exact h trivial | omega))
    refine callF' (h1 rfl a1 a2 a3) rfl (okVS _) ⟨?_, trivial⟩
    rintro ws ⟨⟨op', ⟨so1, so2, so3, so4, so5, so6, so7, so8, so9, so10⟩, ⟨f1, f2, f3, f4, f5, f6, f7, f8, f9, f10⟩, thn', els', nm', kd', ad', args'⟩, e, rfl, hy⟩
    exact finT (y := .mk _ (.mk _ _ _ _ _ _ _ _ _ _) (.mk _ _ _ _ _ _ _ _ _ _) _ _ _ _ _ _) rfl hy
   ·(refine it_c rfl rfl (fun h => ?_) (fun h => ?_) <;> simp only [Cmp, Decidable.not_not, Int.not_lt, Int.not_le] at h <;> try (exfalso; first | exact h trivial | omega)); (refine it_c rfl rfl (fun h => ?_) (fun h => ?_) <;> simp only [Cmp, Decidable.not_not, Int.not_lt, Int.not_le] at h <;> try (exfalso; first | exact h trivial | omega))
    refine callF' (h2 b1) rfl (okVX _) ⟨?_, trivial⟩
    rintro ws ⟨⟨y1, y2, y3, y4, y5, y6, y7, y8, y9, y10⟩, er, rfl, hy⟩
    (refine it_c rfl rfl (fun h => ?_) (fun h => ?_) <;> simp only [Cmp, Decidable.not_not, Int.not_lt, Int.not_le] at h <;> try (exfalso; first | exact h trivial | omega))
    ·(exact finT (y := .mk _ (.mk _ _ _ _ _ _ _ _ _ _) (.mk _ _ _ _ _ _ _ _ _ _) _ _ _ _ _ _) rfl (fun he => absurd he (by first | assumption | decide)))
    have hy := (hy h).1
    (refine it_c rfl rfl (fun h => ?_) (fun h => ?_) <;> simp only [Cmp, Decidable.not_not, Int.not_lt, Int.not_le] at h <;> try (exfalso; first | exact h trivial | omega))
    ·(exact finT (y := .mk _ (.mk _ _ _ _ _ _ _ _ _ _) (.mk _ _ _ _ _ _ _ _ _ _) _ _ _ _ _ _) rfl (fun he => absurd he (by first | assumption | decide)))
    have hk := h
    refine callF' (ih thn b2 b4) rfl (okVB _) ⟨?_, trivial⟩
    rintro ws ⟨thn', er1, rfl, ht⟩
    (refine it_c rfl rfl (fun h => ?_) (fun h => ?_) <;> simp only [Cmp, Decidable.not_not, Int.not_lt, Int.not_le] at h <;> try (exfalso; first | exact h trivial | omega))
    ·(exact finT (y := .mk _ (.mk _ _ _ _ _ _ _ _ _ _) (.mk _ _ _ _ _ _ _ _ _ _) _ _ _ _ _ _) rfl (fun he => absurd he (by first | assumption | decide)))
    have ht := ht h
    refine callF' (ih els b3 b5) rfl (okVB _) ⟨?_, trivial⟩
    rintro ws ⟨els', er2, rfl, hs⟩
    refine finT (y := .mk _ (.mk _ _ _ _ _ _ _ _ _ _) (.mk _ _ _ _ _ _ _ _ _ _) _ _ _ _ _ _) rfl (fun h0 => .inr (.inl ⟨ho, hy, hk, by rw [ht.1]; exact b2, by rw [(hs h0).1]; exact b3, ht.2, (hs h0).2⟩))
   ·(refine it_c rfl rfl (fun h => ?_) (fun h => ?_) <;> simp only [Cmp, Decidable.not_not, Int.not_lt, Int.not_le] at h <;> try (exfalso; first | exact h trivial | omega)); (refine it_c rfl rfl (fun h => ?_) (fun h => ?_) <;> simp only [Cmp, Decidable.not_not, Int.not_lt, Int.not_le] at h <;> try (exfalso; first | exact h trivial | omega))
    refine callF' (h4 a1 a2 a3) rfl (okVS _) ⟨?_, trivial⟩
    rintro ws ⟨⟨op', ⟨so1, so2, so3, so4, so5, so6, so7, so8, so9, so10⟩, ⟨f1, f2, f3, f4, f5, f6, f7, f8, f9, f10⟩, thn', els', nm', kd', ad', args'⟩, e, rfl, hy⟩
    exact finT (y := .mk _ (.mk _ _ _ _ _ _ _ _ _ _) (.mk _ _ _ _ _ _ _ _ _ _) _ _ _ _ _ _) rfl hy
end Go.Proofs.Ytjconanknjgpnaa.vars
set_option maxRecDepth 100000
set_option linter.unusedVariables false
set_option linter.unusedSimpArgs false
namespace Go.Proofs.Ytjconanknjgpnaa.vars
open Go Go.Sx
def c19 : VC := ⟨⟨[], []⟩, [(37, [none])], [], 1, true, [(38, ft38)]⟩
def t19 : VT :=
 (.call 37 [] 66 [none]
 (.callF 38 ft38 [64, 65, J 5, J 2] 67
 (.cons 2
 (.done (.tup [J 0, 66, 71, 72]))
 .nil)))
def c18 : VC := ⟨⟨[], []⟩, [], [], 0, true, []⟩
def t18 : VT :=
 (.done (.tup [J 0]))
def c17 : VC := ⟨⟨[], []⟩, [(35, [none])], [], 0, true, [(36, ft36)]⟩
def t17 : VT :=
 (.call 35 [64] 66 [none]
 (.lt (.bin .neq 31 false true) [66, J 0] 67 none
 (.ite 67
 (.done (.tup [J 0, .nsl, .nsl, 66]))
 (.callF 36 ft36 [64, 65] 68
 (.cons 2
 (.lt (.bin .neq 31 false true) [71, J 0] 72 none
 (.ite 72
 (.done (.tup [J 0, .nsl, .nsl, 71]))
 (.lt (.app 10 88) [.vsl 0 10 [], 64] 73 none
 (.done (.tup [J 0, 73, 70, J 0])))))
 .nil)))))
def c7 : VC := ⟨⟨[], []⟩, [], [], 0, true, [(18, ft18), (19, ft19), (17, ft17)]⟩
def t7 : VT :=
 (.callF 18 ft18 [64] 65
 (.cons 0
 (.callF 19 ft19 [64, J 0] 66
 (.cons 3
 (.callF 17 ft17 [68, 69] 71
 (.cons 3
 (.lt (.bin .eql 31 false true) [75, J 0] 76 none
 (.done (.tup [J 0, 73, 74, 76])))
 .nil))
 .nil))
 .nil))
def R19 (l : List UInt8) : Nat → List AV → Prop := fun _ ws => ∃ (b : List GS) (n : Nat), ws = [VARS, encB b, .int .i64 (n : Int)] ∧ b.length ≤ 5 ∧ ∀ s ∈ b, WS 3 s
theorem p19 {l : List UInt8} {a : AV} (hp : Pk l a) : CF Try.prog 19 ft19 [a, .int .i64 0] (R19 l) := by
 have hA := hp.1.ok okC8
 refine cf_tree (c := c19) (n := 300) (t := t19) mo ov rfl (fun Y _ => known0 _) (by kernel_rfl) fun Y hf hg => ?_
 unfold t19
 refine VOK_call k37 rfl rfl ?_
 refine callF' ((pS hp 2 (by decide)).2 0 5 (Nat.zero_le _) (by decide) (by decide)) rfl (okR hA) ⟨?_, trivial⟩
 rintro ws ⟨b, n, rfl, ⟨h1, h2⟩, h3⟩
 exact VOK_fin (by show okL [VARS, encB b, .int .i64 (n : Int)] = true; rw [okL_cons]; simp only [okL, okC, okB]; rfl) ⟨b, n, rfl, h1, h2⟩
theorem p18 (a : AV) (h : okC a = true) : CF Try.prog 18 ft18 [a] (fun _ ws => ws = []) := by
 refine cf_tree (c := c18) (n := 300) (t := t18) mo ov rfl (fun Y _ => known0 _) (by kernel_rfl) fun Y hf hg => ?_
 unfold t18
 exact VOK_fin rfl rfl
def RC : Nat → List AV → Prop := fun _ ws => ∃ (v : AV) (b : List GS) (e : Int), ws = [v, encB b, .int .i64 e] ∧ okC v = true ∧ (e = 0 → v = VARS ∧ b.length ≤ 5 ∧ ∀ s ∈ b, TS 3 s)
theorem okVBI {v : AV} (hv : okC v = true) (b : List GS) {x : AV} (hx : okC x = true) : okL [v, encB b, x] = true := by simp only [okL, hv, okB, hx]
theorem p17 (b : List GS) (hl : b.length ≤ 5) (h : ∀ s ∈ b, WS 3 s) : CF Try.prog 17 ft17 [VARS, encB b] RC := by
 refine cf_tree (c := c17) (n := 300) (t := t17) mo ov rfl (fun Y _ => known0 _) (by kernel_rfl) fun Y hf hg => ?_
 unfold t17
 refine VOK_call k35 rfl rfl ?_
 (refine it_c rfl rfl (fun h => ?_) (fun h => ?_) <;> simp only [Cmp, Decidable.not_not, Int.not_lt, Int.not_le] at h <;> try (exfalso; first | exact h trivial | omega))
 refine callF' (p36 3 (p63 3) b hl (by assumption)) rfl (okVB _) ⟨?_, trivial⟩
 rintro ws ⟨b', e, rfl, hb⟩
 (refine it_c rfl rfl (fun h => ?_) (fun h => ?_) <;> simp only [Cmp, Decidable.not_not, Int.not_lt, Int.not_le] at h <;> try (exfalso; first | exact h trivial | omega))
 ·exact VOK_fin rfl ⟨.nsl, [], e, rfl, rfl, fun he => absurd he (by assumption)⟩
 ·have hb := hb (by assumption)
  refine VOK_lt (r := VARS) rfl rfl (VOK_fin (okVBI (v := VARS) rfl b' (x := .int .i64 0) rfl) ⟨VARS, b', 0, rfl, rfl, fun _ => ⟨rfl, by omega, hb.2⟩⟩)
def R7 : Nat → List AV → Prop := fun _ ws => ∃ (v : AV) (b : List GS) (e : Bool), ws = [v, encB b, .bool e] ∧ okC v = true ∧ (e = true → v = VARS ∧ b.length ≤ 5 ∧ ∀ s ∈ b, TS 3 s)
theorem p7 {l : List UInt8} {a : AV} (hp : Pk l a) : CF Try.prog 7 ft7 [a] R7 := by
 have hA := hp.1.ok okC8
 refine cf_tree (c := c7) (n := 300) (t := t7) mo ov rfl (fun Y _ => known0 _) (by kernel_rfl) fun Y hf hg => ?_
 unfold t7
 refine callF' (p18 a hA) rfl (by simp only [okL, hA]) ⟨?_, trivial⟩
 rintro ws rfl
 refine callF' (p19 hp) rfl (by simp only [okL, hA, okC]) ⟨?_, trivial⟩
 rintro ws ⟨b, n, rfl, h1, h2⟩
 refine callF' (p17 b h1 h2) rfl (okVB _) ⟨?_, trivial⟩
 rintro ws ⟨v, b', e, rfl, hv, hb⟩
 refine VOK_lt (run_eql ..) rfl (VOK_fin (okVBI hv b' (x := .bool _) rfl) ⟨v, b', decide (e = 0), rfl, hv, fun he => hb (of_decide_eq_true he)⟩)
end Go.Proofs.Ytjconanknjgpnaa.vars
