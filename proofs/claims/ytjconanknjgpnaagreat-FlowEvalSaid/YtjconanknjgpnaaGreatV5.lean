/-
  The check of expressions.
-/
import Derived.Test.YtjconanknjgpnaaGreatFA
import Derived.Test.YtjconanknjgpnaaGreatSzA
import Derived.WalkKit
import Derived.ProofKit
import Derived.Laws.Externs
import Derived.Lib.Hide
set_option maxRecDepth 100000
set_option linter.unusedVariables false
set_option linter.unusedSimpArgs false
namespace Go.Proofs.YtjconanknjgpnaaGreat.vars
open Go Go.Sx
def c121:VC:=⟨⟨[],[]⟩,[(153,[(some 10),none,none]),(154,[(some 10)]),(157,[none]),(158,[none])],[(1,[⟨[(4,.ptr 1 0),(3,.ptr 0 0),(9,.slx 2 10 0),(10,.slx 1 0 0),(0,64)],[(1,[J 0,J 0,.str [],.str [],J 0,J 0,J 0,J 0,.flt .f64 0,.nsl]),(0,[65,66,67,68,69,70,71,72,73,74])],3,2,[⟨2,10,0,9,none⟩],[],[]⟩])],0,true,[(121,ft121),(155,ft155),(156,ft156)]⟩
def t121:VT:=
 (.lt (.bin .eql 3 false true) [65,J 1] 75 none
 (.ite 75
 (.done (.tup [J 0,65,71,67,68,69,70,71,72,73,74,J 0]))
 (.lt (.bin .eql 3 false true) [65,J 2] 76 none
 (.ite 76
 (.callF 155 ft155 [64,65,66,67,68,69,70,71,72,73,74] 77
 (.cons 11
 (.done (.tup [J 0,88,89,90,91,92,93,94,95,96,97,98]))
 .nil))
 (.lt (.bin .eql 3 false true) [65,J 3] 77 none
 (.ite 77
 (.call 153 [64,67] 78 [(some 10),none,none]
 (.lt (.un .not) [89] 90 none
 (.ite 90
 (.done (.tup [J 0,65,66,67,68,69,70,71,72,73,74,J 3]))
 (.lt (.bin .eql 3 false true) [81,J 0] 91 none
 (.ite 91
 (.done (.tup [J 0,65,66,67,68,69,70,71,72,73,74,J 4]))
 (.loop 92 0 [.nsl,J 0]
 (.cons 2
 (.lt (.len 47) [74] 94 none
 (.lt (.bin .lss 3 false false) [93,94] 95 none
 (.ite 95
 (.lt (.iaddr 47) [74,93] 96 none
 (.lt (.load 49) [96] 97 (some 10)
 (.callF 121 ft121 [64,97,98,99,100,101,102,103,104,105,106] 107
 (.cons 11
 (.lt (.bin .neq 35 false true) [128,J 0] 129 none
 (.ite 129
 (.done (.tup [J 0,65,66,67,68,69,70,71,72,73,74,128]))
 (.lt (.app 10 112) [92,.agg [118,119,120,121,122,123,124,125,126,127]] 130 none
 (.lt (.bin .add 3 false true) [93,J 1] 131 none
 (.again 0 0 [130,131])))))
 .nil))))
 (.lt (.bin .eql 3 false true) [65,J 3] 96 none
 (.ite 96
 (.callF 156 ft156 [64,65,66,67,68,69,70,71,72,73,74,92] 97
 (.cons 11
 (.done (.tup [J 0,109,110,111,112,113,114,115,116,117,118,119]))
 .nil))
 (.lt .inb [92,J 0] 97 none
 (.lt (.ldx 3 10 1) [92,97] 98 none
 (.lt (.bin .eql 3 false true) [65,J 17] 99 none
 (.ite 99
 (.lt (.bin .eql 3 false true) [98,J 1] 100 none
 (.ite 100
 (.done (.tup [J 0,65,66,67,68,69,70,71,72,73,74,J 4]))
 (.lt (.bin .eql 3 false true) [66,J 1] 101 none
 (.ite 101
 (.done (.tup [J 0,65,66,67,68,69,70,71,72,73,74,J 4]))
 (.done (.tup [J 0,65,66,67,68,69,70,71,72,73,92,J 0]))))))
 (.lt (.bin .eql 3 false true) [65,J 15] 100 none
 (.ite 100
 (.lt (.bin .eql 3 false true) [98,J 1] 101 none
 (.call 157 [101] 102 [none]
 (.done (.tup [J 0,65,J 1,67,68,69,70,71,72,73,92,102]))))
 (.lt (.bin .eql 3 false true) [65,J 16] 101 none
 (.ite 101
 (.lt (.bin .neq 3 false true) [98,J 1] 102 none
 (.call 157 [102] 103 [none]
 (.done (.tup [J 0,65,98,67,68,69,70,71,72,73,92,103]))))
 (.lt (.bin .geq 3 false true) [65,J 4] 102 none
 (.ite 102
 (.lt (.bin .leq 3 false true) [65,J 12] 103 none
 (.ite 103
 (.lt .inb [92,J 0] 104 none
 (.lt (.ldx 49 10 0) [92,104] 105 (some 10)
 (.lt .inb [92,J 1] 115 none
 (.lt (.ldx 3 10 1) [92,115] 116 none
 (.call 154 [.agg [105,106,107,108,109,110,111,112,113,114],116] 117 [(some 10)]
 (.lt .inb [92,J 1] 127 none
 (.lt (.ldx 49 10 0) [92,127] 128 (some 10)
 (.lt .inb [92,J 0] 138 none
 (.lt (.ldx 3 10 1) [92,138] 139 none
 (.call 154 [.agg [128,129,130,131,132,133,134,135,136,137],139] 140 [(some 10)]
 (.lt .inb [92,J 0] 150 none
 (.lt (.stx 49 10 0) [92,150,.agg [117,118,119,120,121,122,123,124,125,126]] 151 none
 (.lt .inb [92,J 1] 152 none
 (.lt (.stx 49 10 0) [151,152,.agg [140,141,142,143,144,145,146,147,148,149]] 153 none
 (.lt .inb [92,J 0] 154 none
 (.lt (.ldx 3 10 1) [153,154] 155 none
 (.lt .inb [92,J 1] 156 none
 (.lt (.ldx 3 10 1) [153,156] 157 none
 (.lt (.bin .eql 3 false false) [155,157] 158 none
 (.lt (.bin .eql 3 false true) [65,J 4] 159 none
 (.ite 159
 (.ite 158
 (.lt (.bin .neq 3 false true) [155,J 1] 160 none
 (.call 157 [160] 161 [none]
 (.chk (.same 92 153)
 (.done (.tup [J 0,65,155,67,68,69,70,71,72,73,153,161])))))
 (.call 157 [.bool false] 160 [none]
 (.chk (.same 92 153)
 (.done (.tup [J 0,65,155,67,68,69,70,71,72,73,153,160])))))
 (.lt (.bin .eql 3 false true) [65,J 5] 160 none
 (.ite 160
 (.ite 158
 (.lt (.bin .neq 3 false true) [155,J 1] 161 none
 (.call 157 [161] 162 [none]
 (.chk (.same 92 153)
 (.done (.tup [J 0,65,155,67,68,69,70,71,72,73,153,162])))))
 (.call 157 [.bool false] 161 [none]
 (.chk (.same 92 153)
 (.done (.tup [J 0,65,155,67,68,69,70,71,72,73,153,161])))))
 (.lt (.bin .eql 3 false true) [65,J 6] 161 none
 (.ite 161
 (.ite 158
 (.lt (.bin .neq 3 false true) [155,J 1] 162 none
 (.call 157 [162] 163 [none]
 (.chk (.same 92 153)
 (.done (.tup [J 0,65,155,67,68,69,70,71,72,73,153,163])))))
 (.call 157 [.bool false] 162 [none]
 (.chk (.same 92 153)
 (.done (.tup [J 0,65,155,67,68,69,70,71,72,73,153,162])))))
 (.lt (.bin .eql 3 false true) [65,J 7] 162 none
 (.ite 162
 (.ite 158
 (.lt (.bin .neq 3 false true) [155,J 1] 163 none
 (.call 157 [163] 164 [none]
 (.chk (.same 92 153)
 (.done (.tup [J 0,65,155,67,68,69,70,71,72,73,153,164])))))
 (.call 157 [.bool false] 163 [none]
 (.chk (.same 92 153)
 (.done (.tup [J 0,65,155,67,68,69,70,71,72,73,153,163])))))
 (.lt (.bin .eql 3 false true) [65,J 8] 163 none
 (.ite 163
 (.ite 158
 (.call 158 [155] 164 [none]
 (.call 157 [164] 165 [none]
 (.chk (.same 92 153)
 (.done (.tup [J 0,65,155,67,68,69,70,71,72,73,153,165])))))
 (.call 157 [.bool false] 164 [none]
 (.chk (.same 92 153)
 (.done (.tup [J 0,65,155,67,68,69,70,71,72,73,153,164])))))
 (.lt (.bin .eql 3 false true) [65,J 9] 164 none
 (.ite 164
 (.call 157 [158] 165 [none]
 (.chk (.same 92 153)
 (.done (.tup [J 0,65,J 1,67,68,69,70,71,72,73,153,165]))))
 (.lt (.bin .eql 3 false true) [65,J 10] 165 none
 (.ite 165
 (.call 157 [158] 166 [none]
 (.chk (.same 92 153)
 (.done (.tup [J 0,65,J 1,67,68,69,70,71,72,73,153,166]))))
 (.lt (.bin .eql 3 false true) [65,J 11] 166 none
 (.ite 166
 (.ite 158
 (.lt (.bin .neq 3 false true) [155,J 1] 167 none
 (.call 157 [167] 168 [none]
 (.chk (.same 92 153)
 (.done (.tup [J 0,65,J 1,67,68,69,70,71,72,73,153,168])))))
 (.call 157 [.bool false] 167 [none]
 (.chk (.same 92 153)
 (.done (.tup [J 0,65,J 1,67,68,69,70,71,72,73,153,167])))))
 (.lt (.bin .eql 3 false true) [65,J 12] 167 none
 (.ite 167
 (.ite 158
 (.lt (.bin .neq 3 false true) [155,J 1] 168 none
 (.call 157 [168] 169 [none]
 (.chk (.same 92 153)
 (.done (.tup [J 0,65,J 1,67,68,69,70,71,72,73,153,169])))))
 (.call 157 [.bool false] 168 [none]
 (.chk (.same 92 153)
 (.done (.tup [J 0,65,J 1,67,68,69,70,71,72,73,153,168])))))
 (.ite 158
 (.lt (.bin .eql 3 false true) [155,J 1] 168 none
 (.call 157 [168] 169 [none]
 (.chk (.same 92 153)
 (.done (.tup [J 0,65,J 1,67,68,69,70,71,72,73,153,169])))))
 (.call 157 [.bool false] 168 [none]
 (.chk (.same 92 153)
 (.done (.tup [J 0,65,J 1,67,68,69,70,71,72,73,153,168]))))))))))))))))))))))))))))))))))))))))))
 (.lt .inb [92,J 1] 104 none
 (.lt (.ldx 3 10 1) [92,104] 105 none
 (.lt (.bin .eql 3 false false) [98,105] 106 none
 (.lt (.bin .eql 3 false true) [65,J 4] 107 none
 (.ite 107
 (.ite 106
 (.lt (.bin .neq 3 false true) [98,J 1] 108 none
 (.call 157 [108] 109 [none]
 (.done (.tup [J 0,65,98,67,68,69,70,71,72,73,92,109]))))
 (.call 157 [.bool false] 108 [none]
 (.done (.tup [J 0,65,98,67,68,69,70,71,72,73,92,108]))))
 (.lt (.bin .eql 3 false true) [65,J 5] 108 none
 (.ite 108
 (.ite 106
 (.lt (.bin .neq 3 false true) [98,J 1] 109 none
 (.call 157 [109] 110 [none]
 (.done (.tup [J 0,65,98,67,68,69,70,71,72,73,92,110]))))
 (.call 157 [.bool false] 109 [none]
 (.done (.tup [J 0,65,98,67,68,69,70,71,72,73,92,109]))))
 (.lt (.bin .eql 3 false true) [65,J 6] 109 none
 (.ite 109
 (.ite 106
 (.lt (.bin .neq 3 false true) [98,J 1] 110 none
 (.call 157 [110] 111 [none]
 (.done (.tup [J 0,65,98,67,68,69,70,71,72,73,92,111]))))
 (.call 157 [.bool false] 110 [none]
 (.done (.tup [J 0,65,98,67,68,69,70,71,72,73,92,110]))))
 (.lt (.bin .eql 3 false true) [65,J 7] 110 none
 (.ite 110
 (.ite 106
 (.lt (.bin .neq 3 false true) [98,J 1] 111 none
 (.call 157 [111] 112 [none]
 (.done (.tup [J 0,65,98,67,68,69,70,71,72,73,92,112]))))
 (.call 157 [.bool false] 111 [none]
 (.done (.tup [J 0,65,98,67,68,69,70,71,72,73,92,111]))))
 (.lt (.bin .eql 3 false true) [65,J 8] 111 none
 (.ite 111
 (.ite 106
 (.call 158 [98] 112 [none]
 (.call 157 [112] 113 [none]
 (.done (.tup [J 0,65,98,67,68,69,70,71,72,73,92,113]))))
 (.call 157 [.bool false] 112 [none]
 (.done (.tup [J 0,65,98,67,68,69,70,71,72,73,92,112]))))
 (.lt (.bin .eql 3 false true) [65,J 9] 112 none
 (.ite 112
 (.call 157 [106] 113 [none]
 (.done (.tup [J 0,65,J 1,67,68,69,70,71,72,73,92,113])))
 (.lt (.bin .eql 3 false true) [65,J 10] 113 none
 (.ite 113
 (.call 157 [106] 114 [none]
 (.done (.tup [J 0,65,J 1,67,68,69,70,71,72,73,92,114])))
 (.lt (.bin .eql 3 false true) [65,J 11] 114 none
 (.ite 114
 (.ite 106
 (.lt (.bin .neq 3 false true) [98,J 1] 115 none
 (.call 157 [115] 116 [none]
 (.done (.tup [J 0,65,J 1,67,68,69,70,71,72,73,92,116]))))
 (.call 157 [.bool false] 115 [none]
 (.done (.tup [J 0,65,J 1,67,68,69,70,71,72,73,92,115]))))
 (.lt (.bin .eql 3 false true) [65,J 12] 115 none
 (.ite 115
 (.ite 106
 (.lt (.bin .neq 3 false true) [98,J 1] 116 none
 (.call 157 [116] 117 [none]
 (.done (.tup [J 0,65,J 1,67,68,69,70,71,72,73,92,117]))))
 (.call 157 [.bool false] 116 [none]
 (.done (.tup [J 0,65,J 1,67,68,69,70,71,72,73,92,116]))))
 (.ite 106
 (.lt (.bin .eql 3 false true) [98,J 1] 116 none
 (.call 157 [116] 117 [none]
 (.done (.tup [J 0,65,J 1,67,68,69,70,71,72,73,92,117]))))
 (.call 157 [.bool false] 116 [none]
 (.done (.tup [J 0,65,J 1,67,68,69,70,71,72,73,92,116])))))))))))))))))))))))))))
 (.lt .inb [92,J 1] 103 none
 (.lt (.ldx 3 10 1) [92,103] 104 none
 (.lt (.bin .eql 3 false false) [98,104] 105 none
 (.lt (.bin .eql 3 false true) [65,J 4] 106 none
 (.ite 106
 (.ite 105
 (.lt (.bin .neq 3 false true) [98,J 1] 107 none
 (.call 157 [107] 108 [none]
 (.done (.tup [J 0,65,98,67,68,69,70,71,72,73,92,108]))))
 (.call 157 [.bool false] 107 [none]
 (.done (.tup [J 0,65,98,67,68,69,70,71,72,73,92,107]))))
 (.lt (.bin .eql 3 false true) [65,J 5] 107 none
 (.ite 107
 (.ite 105
 (.lt (.bin .neq 3 false true) [98,J 1] 108 none
 (.call 157 [108] 109 [none]
 (.done (.tup [J 0,65,98,67,68,69,70,71,72,73,92,109]))))
 (.call 157 [.bool false] 108 [none]
 (.done (.tup [J 0,65,98,67,68,69,70,71,72,73,92,108]))))
 (.lt (.bin .eql 3 false true) [65,J 6] 108 none
 (.ite 108
 (.ite 105
 (.lt (.bin .neq 3 false true) [98,J 1] 109 none
 (.call 157 [109] 110 [none]
 (.done (.tup [J 0,65,98,67,68,69,70,71,72,73,92,110]))))
 (.call 157 [.bool false] 109 [none]
 (.done (.tup [J 0,65,98,67,68,69,70,71,72,73,92,109]))))
 (.lt (.bin .eql 3 false true) [65,J 7] 109 none
 (.ite 109
 (.ite 105
 (.lt (.bin .neq 3 false true) [98,J 1] 110 none
 (.call 157 [110] 111 [none]
 (.done (.tup [J 0,65,98,67,68,69,70,71,72,73,92,111]))))
 (.call 157 [.bool false] 110 [none]
 (.done (.tup [J 0,65,98,67,68,69,70,71,72,73,92,110]))))
 (.lt (.bin .eql 3 false true) [65,J 8] 110 none
 (.ite 110
 (.ite 105
 (.call 158 [98] 111 [none]
 (.call 157 [111] 112 [none]
 (.done (.tup [J 0,65,98,67,68,69,70,71,72,73,92,112]))))
 (.call 157 [.bool false] 111 [none]
 (.done (.tup [J 0,65,98,67,68,69,70,71,72,73,92,111]))))
 (.lt (.bin .eql 3 false true) [65,J 9] 111 none
 (.ite 111
 (.call 157 [105] 112 [none]
 (.done (.tup [J 0,65,J 1,67,68,69,70,71,72,73,92,112])))
 (.lt (.bin .eql 3 false true) [65,J 10] 112 none
 (.ite 112
 (.call 157 [105] 113 [none]
 (.done (.tup [J 0,65,J 1,67,68,69,70,71,72,73,92,113])))
 (.lt (.bin .eql 3 false true) [65,J 11] 113 none
 (.ite 113
 (.ite 105
 (.lt (.bin .neq 3 false true) [98,J 1] 114 none
 (.call 157 [114] 115 [none]
 (.done (.tup [J 0,65,J 1,67,68,69,70,71,72,73,92,115]))))
 (.call 157 [.bool false] 114 [none]
 (.done (.tup [J 0,65,J 1,67,68,69,70,71,72,73,92,114]))))
 (.lt (.bin .eql 3 false true) [65,J 12] 114 none
 (.ite 114
 (.ite 105
 (.lt (.bin .neq 3 false true) [98,J 1] 115 none
 (.call 157 [115] 116 [none]
 (.done (.tup [J 0,65,J 1,67,68,69,70,71,72,73,92,116]))))
 (.call 157 [.bool false] 115 [none]
 (.done (.tup [J 0,65,J 1,67,68,69,70,71,72,73,92,115]))))
 (.ite 105
 (.lt (.bin .eql 3 false true) [98,J 1] 115 none
 (.call 157 [115] 116 [none]
 (.done (.tup [J 0,65,J 1,67,68,69,70,71,72,73,92,116]))))
 (.call 157 [.bool false] 115 [none]
 (.done (.tup [J 0,65,J 1,67,68,69,70,71,72,73,92,115]))))))))))))))))))))))))))))))))))))))))
 .nil)))))))
 (.loop 78 0 [.nsl,J 0]
 (.cons 2
 (.lt (.len 47) [74] 80 none
 (.lt (.bin .lss 3 false false) [79,80] 81 none
 (.ite 81
 (.lt (.iaddr 47) [74,79] 82 none
 (.lt (.load 49) [82] 83 (some 10)
 (.callF 121 ft121 [64,83,84,85,86,87,88,89,90,91,92] 93
 (.cons 11
 (.lt (.bin .neq 35 false true) [114,J 0] 115 none
 (.ite 115
 (.done (.tup [J 0,65,66,67,68,69,70,71,72,73,74,114]))
 (.lt (.app 10 112) [78,.agg [104,105,106,107,108,109,110,111,112,113]] 116 none
 (.lt (.bin .add 3 false true) [79,J 1] 117 none
 (.again 0 0 [116,117])))))
 .nil))))
 (.lt (.bin .eql 3 false true) [65,J 3] 82 none
 (.ite 82
 (.callF 156 ft156 [64,65,66,67,68,69,70,71,72,73,74,78] 83
 (.cons 11
 (.done (.tup [J 0,95,96,97,98,99,100,101,102,103,104,105]))
 .nil))
 (.lt .inb [78,J 0] 83 none
 (.lt (.ldx 3 10 1) [78,83] 84 none
 (.lt (.bin .eql 3 false true) [65,J 17] 85 none
 (.ite 85
 (.lt (.bin .eql 3 false true) [84,J 1] 86 none
 (.ite 86
 (.done (.tup [J 0,65,66,67,68,69,70,71,72,73,74,J 4]))
 (.lt (.bin .eql 3 false true) [66,J 1] 87 none
 (.ite 87
 (.done (.tup [J 0,65,66,67,68,69,70,71,72,73,74,J 4]))
 (.done (.tup [J 0,65,66,67,68,69,70,71,72,73,78,J 0]))))))
 (.lt (.bin .eql 3 false true) [65,J 15] 86 none
 (.ite 86
 (.lt (.bin .eql 3 false true) [84,J 1] 87 none
 (.call 157 [87] 88 [none]
 (.done (.tup [J 0,65,J 1,67,68,69,70,71,72,73,78,88]))))
 (.lt (.bin .eql 3 false true) [65,J 16] 87 none
 (.ite 87
 (.lt (.bin .neq 3 false true) [84,J 1] 88 none
 (.call 157 [88] 89 [none]
 (.done (.tup [J 0,65,84,67,68,69,70,71,72,73,78,89]))))
 (.lt (.bin .geq 3 false true) [65,J 4] 88 none
 (.ite 88
 (.lt (.bin .leq 3 false true) [65,J 12] 89 none
 (.ite 89
 (.lt .inb [78,J 0] 90 none
 (.lt (.ldx 49 10 0) [78,90] 91 (some 10)
 (.lt .inb [78,J 1] 101 none
 (.lt (.ldx 3 10 1) [78,101] 102 none
 (.call 154 [.agg [91,92,93,94,95,96,97,98,99,100],102] 103 [(some 10)]
 (.lt .inb [78,J 1] 113 none
 (.lt (.ldx 49 10 0) [78,113] 114 (some 10)
 (.lt .inb [78,J 0] 124 none
 (.lt (.ldx 3 10 1) [78,124] 125 none
 (.call 154 [.agg [114,115,116,117,118,119,120,121,122,123],125] 126 [(some 10)]
 (.lt .inb [78,J 0] 136 none
 (.lt (.stx 49 10 0) [78,136,.agg [103,104,105,106,107,108,109,110,111,112]] 137 none
 (.lt .inb [78,J 1] 138 none
 (.lt (.stx 49 10 0) [137,138,.agg [126,127,128,129,130,131,132,133,134,135]] 139 none
 (.lt .inb [78,J 0] 140 none
 (.lt (.ldx 3 10 1) [139,140] 141 none
 (.lt .inb [78,J 1] 142 none
 (.lt (.ldx 3 10 1) [139,142] 143 none
 (.lt (.bin .eql 3 false false) [141,143] 144 none
 (.lt (.bin .eql 3 false true) [65,J 4] 145 none
 (.ite 145
 (.ite 144
 (.lt (.bin .neq 3 false true) [141,J 1] 146 none
 (.call 157 [146] 147 [none]
 (.chk (.same 78 139)
 (.done (.tup [J 0,65,141,67,68,69,70,71,72,73,139,147])))))
 (.call 157 [.bool false] 146 [none]
 (.chk (.same 78 139)
 (.done (.tup [J 0,65,141,67,68,69,70,71,72,73,139,146])))))
 (.lt (.bin .eql 3 false true) [65,J 5] 146 none
 (.ite 146
 (.ite 144
 (.lt (.bin .neq 3 false true) [141,J 1] 147 none
 (.call 157 [147] 148 [none]
 (.chk (.same 78 139)
 (.done (.tup [J 0,65,141,67,68,69,70,71,72,73,139,148])))))
 (.call 157 [.bool false] 147 [none]
 (.chk (.same 78 139)
 (.done (.tup [J 0,65,141,67,68,69,70,71,72,73,139,147])))))
 (.lt (.bin .eql 3 false true) [65,J 6] 147 none
 (.ite 147
 (.ite 144
 (.lt (.bin .neq 3 false true) [141,J 1] 148 none
 (.call 157 [148] 149 [none]
 (.chk (.same 78 139)
 (.done (.tup [J 0,65,141,67,68,69,70,71,72,73,139,149])))))
 (.call 157 [.bool false] 148 [none]
 (.chk (.same 78 139)
 (.done (.tup [J 0,65,141,67,68,69,70,71,72,73,139,148])))))
 (.lt (.bin .eql 3 false true) [65,J 7] 148 none
 (.ite 148
 (.ite 144
 (.lt (.bin .neq 3 false true) [141,J 1] 149 none
 (.call 157 [149] 150 [none]
 (.chk (.same 78 139)
 (.done (.tup [J 0,65,141,67,68,69,70,71,72,73,139,150])))))
 (.call 157 [.bool false] 149 [none]
 (.chk (.same 78 139)
 (.done (.tup [J 0,65,141,67,68,69,70,71,72,73,139,149])))))
 (.lt (.bin .eql 3 false true) [65,J 8] 149 none
 (.ite 149
 (.ite 144
 (.call 158 [141] 150 [none]
 (.call 157 [150] 151 [none]
 (.chk (.same 78 139)
 (.done (.tup [J 0,65,141,67,68,69,70,71,72,73,139,151])))))
 (.call 157 [.bool false] 150 [none]
 (.chk (.same 78 139)
 (.done (.tup [J 0,65,141,67,68,69,70,71,72,73,139,150])))))
 (.lt (.bin .eql 3 false true) [65,J 9] 150 none
 (.ite 150
 (.call 157 [144] 151 [none]
 (.chk (.same 78 139)
 (.done (.tup [J 0,65,J 1,67,68,69,70,71,72,73,139,151]))))
 (.lt (.bin .eql 3 false true) [65,J 10] 151 none
 (.ite 151
 (.call 157 [144] 152 [none]
 (.chk (.same 78 139)
 (.done (.tup [J 0,65,J 1,67,68,69,70,71,72,73,139,152]))))
 (.lt (.bin .eql 3 false true) [65,J 11] 152 none
 (.ite 152
 (.ite 144
 (.lt (.bin .neq 3 false true) [141,J 1] 153 none
 (.call 157 [153] 154 [none]
 (.chk (.same 78 139)
 (.done (.tup [J 0,65,J 1,67,68,69,70,71,72,73,139,154])))))
 (.call 157 [.bool false] 153 [none]
 (.chk (.same 78 139)
 (.done (.tup [J 0,65,J 1,67,68,69,70,71,72,73,139,153])))))
 (.lt (.bin .eql 3 false true) [65,J 12] 153 none
 (.ite 153
 (.ite 144
 (.lt (.bin .neq 3 false true) [141,J 1] 154 none
 (.call 157 [154] 155 [none]
 (.chk (.same 78 139)
 (.done (.tup [J 0,65,J 1,67,68,69,70,71,72,73,139,155])))))
 (.call 157 [.bool false] 154 [none]
 (.chk (.same 78 139)
 (.done (.tup [J 0,65,J 1,67,68,69,70,71,72,73,139,154])))))
 (.ite 144
 (.lt (.bin .eql 3 false true) [141,J 1] 154 none
 (.call 157 [154] 155 [none]
 (.chk (.same 78 139)
 (.done (.tup [J 0,65,J 1,67,68,69,70,71,72,73,139,155])))))
 (.call 157 [.bool false] 154 [none]
 (.chk (.same 78 139)
 (.done (.tup [J 0,65,J 1,67,68,69,70,71,72,73,139,154]))))))))))))))))))))))))))))))))))))))))))
 (.lt .inb [78,J 1] 90 none
 (.lt (.ldx 3 10 1) [78,90] 91 none
 (.lt (.bin .eql 3 false false) [84,91] 92 none
 (.lt (.bin .eql 3 false true) [65,J 4] 93 none
 (.ite 93
 (.ite 92
 (.lt (.bin .neq 3 false true) [84,J 1] 94 none
 (.call 157 [94] 95 [none]
 (.done (.tup [J 0,65,84,67,68,69,70,71,72,73,78,95]))))
 (.call 157 [.bool false] 94 [none]
 (.done (.tup [J 0,65,84,67,68,69,70,71,72,73,78,94]))))
 (.lt (.bin .eql 3 false true) [65,J 5] 94 none
 (.ite 94
 (.ite 92
 (.lt (.bin .neq 3 false true) [84,J 1] 95 none
 (.call 157 [95] 96 [none]
 (.done (.tup [J 0,65,84,67,68,69,70,71,72,73,78,96]))))
 (.call 157 [.bool false] 95 [none]
 (.done (.tup [J 0,65,84,67,68,69,70,71,72,73,78,95]))))
 (.lt (.bin .eql 3 false true) [65,J 6] 95 none
 (.ite 95
 (.ite 92
 (.lt (.bin .neq 3 false true) [84,J 1] 96 none
 (.call 157 [96] 97 [none]
 (.done (.tup [J 0,65,84,67,68,69,70,71,72,73,78,97]))))
 (.call 157 [.bool false] 96 [none]
 (.done (.tup [J 0,65,84,67,68,69,70,71,72,73,78,96]))))
 (.lt (.bin .eql 3 false true) [65,J 7] 96 none
 (.ite 96
 (.ite 92
 (.lt (.bin .neq 3 false true) [84,J 1] 97 none
 (.call 157 [97] 98 [none]
 (.done (.tup [J 0,65,84,67,68,69,70,71,72,73,78,98]))))
 (.call 157 [.bool false] 97 [none]
 (.done (.tup [J 0,65,84,67,68,69,70,71,72,73,78,97]))))
 (.lt (.bin .eql 3 false true) [65,J 8] 97 none
 (.ite 97
 (.ite 92
 (.call 158 [84] 98 [none]
 (.call 157 [98] 99 [none]
 (.done (.tup [J 0,65,84,67,68,69,70,71,72,73,78,99]))))
 (.call 157 [.bool false] 98 [none]
 (.done (.tup [J 0,65,84,67,68,69,70,71,72,73,78,98]))))
 (.lt (.bin .eql 3 false true) [65,J 9] 98 none
 (.ite 98
 (.call 157 [92] 99 [none]
 (.done (.tup [J 0,65,J 1,67,68,69,70,71,72,73,78,99])))
 (.lt (.bin .eql 3 false true) [65,J 10] 99 none
 (.ite 99
 (.call 157 [92] 100 [none]
 (.done (.tup [J 0,65,J 1,67,68,69,70,71,72,73,78,100])))
 (.lt (.bin .eql 3 false true) [65,J 11] 100 none
 (.ite 100
 (.ite 92
 (.lt (.bin .neq 3 false true) [84,J 1] 101 none
 (.call 157 [101] 102 [none]
 (.done (.tup [J 0,65,J 1,67,68,69,70,71,72,73,78,102]))))
 (.call 157 [.bool false] 101 [none]
 (.done (.tup [J 0,65,J 1,67,68,69,70,71,72,73,78,101]))))
 (.lt (.bin .eql 3 false true) [65,J 12] 101 none
 (.ite 101
 (.ite 92
 (.lt (.bin .neq 3 false true) [84,J 1] 102 none
 (.call 157 [102] 103 [none]
 (.done (.tup [J 0,65,J 1,67,68,69,70,71,72,73,78,103]))))
 (.call 157 [.bool false] 102 [none]
 (.done (.tup [J 0,65,J 1,67,68,69,70,71,72,73,78,102]))))
 (.ite 92
 (.lt (.bin .eql 3 false true) [84,J 1] 102 none
 (.call 157 [102] 103 [none]
 (.done (.tup [J 0,65,J 1,67,68,69,70,71,72,73,78,103]))))
 (.call 157 [.bool false] 102 [none]
 (.done (.tup [J 0,65,J 1,67,68,69,70,71,72,73,78,102])))))))))))))))))))))))))))
 (.lt .inb [78,J 1] 89 none
 (.lt (.ldx 3 10 1) [78,89] 90 none
 (.lt (.bin .eql 3 false false) [84,90] 91 none
 (.lt (.bin .eql 3 false true) [65,J 4] 92 none
 (.ite 92
 (.ite 91
 (.lt (.bin .neq 3 false true) [84,J 1] 93 none
 (.call 157 [93] 94 [none]
 (.done (.tup [J 0,65,84,67,68,69,70,71,72,73,78,94]))))
 (.call 157 [.bool false] 93 [none]
 (.done (.tup [J 0,65,84,67,68,69,70,71,72,73,78,93]))))
 (.lt (.bin .eql 3 false true) [65,J 5] 93 none
 (.ite 93
 (.ite 91
 (.lt (.bin .neq 3 false true) [84,J 1] 94 none
 (.call 157 [94] 95 [none]
 (.done (.tup [J 0,65,84,67,68,69,70,71,72,73,78,95]))))
 (.call 157 [.bool false] 94 [none]
 (.done (.tup [J 0,65,84,67,68,69,70,71,72,73,78,94]))))
 (.lt (.bin .eql 3 false true) [65,J 6] 94 none
 (.ite 94
 (.ite 91
 (.lt (.bin .neq 3 false true) [84,J 1] 95 none
 (.call 157 [95] 96 [none]
 (.done (.tup [J 0,65,84,67,68,69,70,71,72,73,78,96]))))
 (.call 157 [.bool false] 95 [none]
 (.done (.tup [J 0,65,84,67,68,69,70,71,72,73,78,95]))))
 (.lt (.bin .eql 3 false true) [65,J 7] 95 none
 (.ite 95
 (.ite 91
 (.lt (.bin .neq 3 false true) [84,J 1] 96 none
 (.call 157 [96] 97 [none]
 (.done (.tup [J 0,65,84,67,68,69,70,71,72,73,78,97]))))
 (.call 157 [.bool false] 96 [none]
 (.done (.tup [J 0,65,84,67,68,69,70,71,72,73,78,96]))))
 (.lt (.bin .eql 3 false true) [65,J 8] 96 none
 (.ite 96
 (.ite 91
 (.call 158 [84] 97 [none]
 (.call 157 [97] 98 [none]
 (.done (.tup [J 0,65,84,67,68,69,70,71,72,73,78,98]))))
 (.call 157 [.bool false] 97 [none]
 (.done (.tup [J 0,65,84,67,68,69,70,71,72,73,78,97]))))
 (.lt (.bin .eql 3 false true) [65,J 9] 97 none
 (.ite 97
 (.call 157 [91] 98 [none]
 (.done (.tup [J 0,65,J 1,67,68,69,70,71,72,73,78,98])))
 (.lt (.bin .eql 3 false true) [65,J 10] 98 none
 (.ite 98
 (.call 157 [91] 99 [none]
 (.done (.tup [J 0,65,J 1,67,68,69,70,71,72,73,78,99])))
 (.lt (.bin .eql 3 false true) [65,J 11] 99 none
 (.ite 99
 (.ite 91
 (.lt (.bin .neq 3 false true) [84,J 1] 100 none
 (.call 157 [100] 101 [none]
 (.done (.tup [J 0,65,J 1,67,68,69,70,71,72,73,78,101]))))
 (.call 157 [.bool false] 100 [none]
 (.done (.tup [J 0,65,J 1,67,68,69,70,71,72,73,78,100]))))
 (.lt (.bin .eql 3 false true) [65,J 12] 100 none
 (.ite 100
 (.ite 91
 (.lt (.bin .neq 3 false true) [84,J 1] 101 none
 (.call 157 [101] 102 [none]
 (.done (.tup [J 0,65,J 1,67,68,69,70,71,72,73,78,102]))))
 (.call 157 [.bool false] 101 [none]
 (.done (.tup [J 0,65,J 1,67,68,69,70,71,72,73,78,101]))))
 (.ite 91
 (.lt (.bin .eql 3 false true) [84,J 1] 101 none
 (.call 157 [101] 102 [none]
 (.done (.tup [J 0,65,J 1,67,68,69,70,71,72,73,78,102]))))
 (.call 157 [.bool false] 101 [none]
 (.done (.tup [J 0,65,J 1,67,68,69,70,71,72,73,78,101]))))))))))))))))))))))))))))))))))))))))
 .nil))))))))
theorem p158 (k:Int):Pure Tryz.prog 158 [.int .i64 k] (.bool (decide (k=2\/k=3\/k=4))):=by
 refine pure_shape (sh:=[none]) (ls:=[.int .i64 k]) (c:=c158) (n:=300) (t:=t158) mo ov rfl rfl rfl (λY _=>known0 _) rfl (by kernel_rfl) λY hf hg=>?_
 unfold t158
 (refine it_c rfl rfl (λh=>?_) (λh=>?_)<;>simp only [Cmp,Decidable.not_not,Int.not_lt,Int.not_le]at h<;>try (exfalso;first|exact h trivial|omega))
 ·refine VOK_done ?_
  show AV.bool _=_
  congr 1;symm;simp only [decide_eq_true_eq];omega
 (refine it_c rfl rfl (λh=>?_) (λh=>?_)<;>simp only [Cmp,Decidable.not_not,Int.not_lt,Int.not_le]at h<;>try (exfalso;first|exact h trivial|omega))
 ·refine VOK_done ?_
  show AV.bool _=_
  congr 1;symm;simp only [decide_eq_true_eq];omega
 refine VOK_lt (run_eql ..) rfl (VOK_done ?_)
 show AV.bool _=_
 congr 1
 refine decide_eq_decide.2 ?_
 omega
theorem typed0 {b:Bool} (h:(if b=true then (0:Int)else 4)=0):b=true:=by
 cases b with
 |true=>rfl
 |false=>simp at h
section
variable {P:Program} {Q:AV->Prop} {L:List (Nat->List AV->Prop)} {Y:Sy} {i:Nat} {A B:VT}
theorem it_d {p:Prop} [Decidable p] (h0:Y.v i=some (.bool (decide p))) (h1:p->VOK P Q L Y A) (h2:¬p->VOK P Q L Y B):VOK P Q L Y (.ite i A B):=
 VOK_ite h0 (λh=>h1 (of_decide_eq_true h)) (λh=>h2 (of_decide_eq_false h))
end
def RE (d:Nat) (x:GX):Nat->List AV->Prop:=λ_ ws=>∃(y:GX) (e:Int),ws=encX y++[.int .i64 e]/\(e=0->TX d y/\y.op=x.op/\NT x y)
theorem finE {d j:Nat} {x y:GX} {e:Int} {hv:List AV} {Y:Sy} {L:List (Nat->List AV->Prop)} (h:denL Y.v hv=encX y++[.int .i64 e]) (hw:e=0->TX d y/\y.op=x.op/\NT x y):VOK Tryz.prog (QF (RE d x)) L Y (.done (.tup (.int .i64 (.ofNat j)::hv))):=
 VOK_fin (by rw [h];exact okXn y e) ⟨y,e,h,hw⟩
def RM (x:GX) (k:Int):Nat->List AV->Prop:=λ_ ws=>∃e:Int,ws=(match x with| .mk op _ nm fd _ _ vk vi vf args=>encX (.mk op 2 nm fd 8 4 vk vi vf args))++[.int .i64 e]/\(e=0->k=2\/k=3)
theorem p156 (op kd:Int) (nm fd:List UInt8) (ad n vk vi:Int) (vf:Nat) (args:List GX) (y:GX) (h:nm=[107]):CF Tryz.prog 156 ft156 (VARS::(encX (.mk op kd nm fd ad n vk vi vf args)++[encA [y]])) (RM (.mk op kd nm fd ad n vk vi vf [y]) y.kd):=by
 subst h
 obtain ⟨yo,yk,ynm,yfd,yad,yn,yvk,yvi,yvf,ya⟩:=y
 refine cf_tree (c:=c156) (n:=300) (t:=t156) mo ov rfl (λY _=>known0 _) (by kernel_rfl) λY hf hg=>?_
 unfold t156
 refine VOK_call k88_107 rfl rfl (VOK_lt rfl rfl (VOK_ite rfl (λh=>by cases h) (λ_=>VOK_lt rfl rfl (VOK_ite rfl (λ_=>?_) (λh=>by cases h)))))
 refine VOK_lt (r:=.vptr (encX (.mk yo yk ynm yfd yad yn yvk yvi yvf ya)++encXs [])) rfl (by show okL _=true;exact encL_ok.okL_join (okX _) (okXs _)) ?_
 refine VOK_lt (r:=.vptr [.int .i64 yk,.str ynm,.str yfd,.int .i64 yad,.int .i64 yn,.int .i64 yvk,.int .i64 yvi,.flt .f64 yvf,encA ya]) rfl (by simp only [okC,okL,okA]) (VOK_lt (r:=.int .i64 yk) rfl rfl ?_)
 (refine it_c rfl rfl (λh=>?_) (λh=>?_)<;>simp only [Cmp,Decidable.not_not,Int.not_lt,Int.not_le]at h<;>try (exfalso;first|exact h trivial|omega))
 ·refine VOK_call (p157 true) rfl rfl (VOK_fin (by show okL (encX (.mk op 2 [107] fd 8 4 vk vi vf [_])++[_])=true;exact okXn _ _) ⟨_,rfl,λ_=>.inl h⟩)
 ·refine VOK_lt (r:=.vptr (encX (.mk yo yk ynm yfd yad yn yvk yvi yvf ya)++encXs [])) rfl (by show okL _=true;exact encL_ok.okL_join (okX _) (okXs _)) ?_
  refine VOK_lt (r:=.vptr [.int .i64 yk,.str ynm,.str yfd,.int .i64 yad,.int .i64 yn,.int .i64 yvk,.int .i64 yvi,.flt .f64 yvf,encA ya]) rfl (by simp only [okC,okL,okA]) (VOK_lt (r:=.int .i64 yk) rfl rfl ?_)
  refine VOK_lt (run_eql ..) rfl (VOK_call (p157 _) rfl rfl (VOK_fin (by show okL (encX (.mk op 2 [107] fd 8 4 vk vi vf [_])++[_])=true;exact okXn _ _) ⟨_,rfl,λh=>.inr ?_⟩))
  exact of_decide_eq_true (typed0 h)
theorem run_len38 (l:List GX):(XOp.len 47).run Tryz.prog [encA l]=some (.int .i64 (l.length:Int)):=by rw [encA_eq];exact run_len_sl Tryz.underlying47 l
theorem run_ia38 (l:List GX) {i:Nat} (h:i<l.length):(XOp.iaddr 47).run Tryz.prog [encA l,.int .i64 (i:Int)]=some (.vptr (encL encX (l.drop i))):=by
 rw [encA_eq];exact run_iaddr_sl (e:=49) (ti:=(Tryz.prog.info? 49).get!) Tryz.underlying47 (by kernel_rfl) (by kernel_rfl) lenX h .i64
theorem run_ld40 (l:List GX) {i:Nat} (h:i<l.length):(XOp.load 49).run Tryz.prog [.vptr (encL encX (l.drop i))]=some (.agg (encX l[i])):=
 run_load_agg (ti:=(Tryz.prog.info? 49).get!) Tryz.underlying49 rfl (by kernel_rfl) (by kernel_rfl) lenX h
theorem run_app10 (l:List GX) (s:GX) (hl:l.length<=100000):(XOp.app 10 112).run Tryz.prog [encA l,.agg (encX s)]=some (encA (l++[s])):=by
 rw [encA_eq,encA_eq]
 exact run_app_sl lenX (by decide) (by decide) l s (by omega)
theorem run_stx40 (l:List GX) {i:Nat} (hi:i<l.length) (y:GX) (k:IntKind):(XOp.stx 49 10 0).run Tryz.prog [encA l,.int k (i:Int),.agg (encX y)]=some (encA (l.set i y)):=by
 rw [encA_eq,encA_eq]
 exact run_stx (ti:=(Tryz.prog.info? 49).get!) lenX hi (p:=[]) (q:=encX l[i]) (r:=[]) (xs:=encX y) rfl (.inl rfl) (by kernel_rfl) (by rw [lenX];kernel_rfl) (allOne_ok (okX _)) (by simp) rfl (by rw [lenX,lenX]) (by simp) k
theorem okXe (x:GX):okL (encX x++[])=true:=by rw [List.append_nil];exact okX x
def typ (b:Bool):Int:=if b=true then 0 else 4
theorem typ0 {b:Bool} (h:typ b=0):b=true:=typed0 h
theorem p92t (b:Bool):Pure Tryz.prog 157 [.bool b] (.int .i64 (typ b)):=p157 b
attribute [irreducible] typ
theorem TX1 {d:Nat} {op kd ad n vk vi:Int} {nm fd:List UInt8} {vf:Nat} {y:GX} (hf:Flt4 vf) (hy:TX d y) (ho:op=15/\kd=1/\y.kd=1\/op=16/\kd=y.kd/\y.kd≠1\/op=17/\2<=kd/\kd<=5/\y.kd≠1):TX (d+1) (.mk op kd nm fd ad n vk vi vf [y]):=by
 have hk:=TX_kd hy
 refine ⟨.inr (.inl ⟨by omega,rfl⟩),hf,by omega,by omega,⟨λh=>by omega,λh=>by omega,λh=>by omega,λh=>by omega,λh=>?_,λh=>?_,λh=>?_⟩,λa ha=>by cases List.mem_singleton.1 ha;exact hy⟩
 ·exact ⟨by omega,by show [y.kd]=[1];congr 1;omega⟩
 ·exact ⟨by show [y.kd]=[kd];congr 1;omega,by omega,by omega⟩
 ·exact ⟨by omega,by omega,y.kd,rfl,by omega,by omega⟩
theorem TX2 {d:Nat} {op kd ad n vk vi:Int} {nm fd:List UInt8} {vf:Nat} {y z:GX} (hf:Flt4 vf) (hy:TX d y) (hz:TX d z) (ho:4<=op/\op<=14) (hk:y.kd=z.kd) (h1:op<=8->kd=y.kd/\y.kd≠1) (h2:9<=op->kd=1) (h3:op=8->y.kd≠5) (h4:op=11\/op=12->y.kd≠1) (h5:13<=op->y.kd=1):TX (d+1) (.mk op kd nm fd ad n vk vi vf [y,z]):=by
 have hy1:=TX_kd hy
 refine ⟨.inr (.inr ⟨ho,rfl⟩),hf,by omega,by omega,⟨λh=>by omega,λh=>by omega,λh=>by omega,λh=>?_,λh=>by omega,λh=>by omega,λh=>by omega⟩,λa ha=>by
  rcases List.mem_cons.1 ha with rfl|ha
  ·exact hy
  ·cases List.mem_singleton.1 ha;exact hz⟩
 exact ⟨y.kd,by show [y.kd,z.kd]=_;rw [←hk],hy1.1,hy1.2,h1,h2,h3,h4,h5⟩
theorem p121:∀(d:Nat) (x:GX),WX d x->CF Tryz.prog 121 ft121 (VARS::encX x) (RE d x)
 |0,_,h=>h.elim
 |d+1,.mk op kd nm fd ad n vk vi vf args,hx=>by
  obtain ⟨hA,hF,⟨n1,n2,n3,n4⟩,hW⟩:=hx
  have ih:=λ(z:GX) (hz:z∈args)=>p121 d z (hW z hz)
  have hal:args.length<=2:=by unfold Ari at hA;omega
  refine cf_tree (c:=c121) (n:=300) (t:=t121) mo ov rfl (λY _=>known0 _) (by kernel_rfl) λY hf hg=>?_
  unfold t121
  (refine it_c rfl rfl (λh=>?_) (λh=>?_)<;>simp only [Cmp,Decidable.not_not,Int.not_lt,Int.not_le]at h<;>try (exfalso;first|exact h trivial|omega))
  ·subst h
   have hl:args=[]:=by unfold Ari at hA;exact List.length_eq_zero_iff.1 (by omega)
   subst hl
   refine finE (y:=.mk 1 vk nm fd ad n vk vi vf []) rfl (λ_=>⟨⟨hA,hF,?_,?_,?_,λa ha=>(List.not_mem_nil ha).elim⟩,rfl,λh=>by omega⟩)
   all_goals obtain ⟨m1,m2,m3,m4,m5,m6⟩:=n1 rfl
   ·omega
   ·omega
   ·exact ⟨λ_=>⟨rfl,by omega,by omega,m2,m3,m4,m5,m6⟩,λh=>by omega,λh=>by omega,λh=>by omega,λh=>by omega,λh=>by omega,λh=>by omega⟩
  (refine it_c rfl rfl (λh=>?_) (λh=>?_)<;>simp only [Cmp,Decidable.not_not,Int.not_lt,Int.not_le]at h<;>try (exfalso;first|exact h trivial|omega))
  ·subst h
   have hl:args=[]:=by unfold Ari at hA;exact List.length_eq_zero_iff.1 (by omega)
   subst hl
   refine callF' (p155 2 kd nm fd ad n vk vi vf [] (n2 rfl)) rfl (by show okL (VARS::encX (.mk 2 kd nm fd ad n vk vi vf []))=true;rw [okL_cons];exact okX _) ⟨?_,trivial⟩
   rintro ws ⟨ad1,kd1,rfl,hc⟩
   have hc':(ad1,kd1)∈cellsL:=tie_cells _ hc
   refine finE (y:=.mk 2 kd1 nm fd ad1 n vk vi vf []) rfl (λ_=>⟨⟨hA,hF,?_,?_,⟨λh=>by omega,λ_=>hc',λh=>by omega,λh=>by omega,λh=>by omega,λh=>by omega,λh=>by omega⟩,λa ha=>(List.not_mem_nil ha).elim⟩,rfl,λ_=>hc⟩)
   ·simp [cellsL]at hc';omega
   ·simp [cellsL]at hc';omega
  (refine it_c rfl rfl (λh=>?_) (λh=>?_)<;>simp only [Cmp,Decidable.not_not,Int.not_lt,Int.not_le]at h<;>try (exfalso;first|exact h trivial|omega))
  ·subst h
   cases n3 rfl
   refine VOK_call k88_107 rfl rfl (VOK_lt rfl rfl (VOK_ite rfl (λh=>by cases h) (λ_=>VOK_lt rfl rfl (VOK_ite rfl (λh=>by cases h) (λ_=>?_)))))
   refine VOK_loop (ι:=List GX×Nat) (λs=>[encA s.1,.int .i64 (s.2:Int)]) (λs=>s.1.length=s.2/\s.2<=args.length/\∀a∈s.1,TX d a) (λs=>args.length-s.2) ([],0) ⟨rfl,Nat.zero_le _,λa ha=>(List.not_mem_nil ha).elim⟩ rfl (λs _=>by simp only [okL,okC,okA]) (λs s' _ _ h=>by simp at h;omega) (λs hs=>?_)
   obtain ⟨acc,i⟩:=s
   obtain ⟨h1,h2,h3⟩:=hs
   simp only at h1 h2 h3⊢
   refine VOK_lt (run_len38 args) rfl ?_
   (refine it_c rfl rfl (λh=>?_) (λh=>?_)<;>simp only [Cmp,Decidable.not_not,Int.not_lt,Int.not_le]at h<;>try (exfalso;first|exact h trivial|omega))
   ·have hi:i<args.length:=by omega
    have hld:=run_ld40 args hi
    have hz:=ih args[i] (List.getElem_mem hi)
    rcases hzz:args[i]with ⟨zo,zk,znm,zfd,zad,zn,zvk,zvi,zvf,za⟩
    rw [hzz]at hld hz
    refine VOK_lt (run_ia38 args hi) (encL_ok okX _) (VOK_ltN hld rfl (okX _) ?_)
    refine callF' hz rfl (by show okL (VARS::encX (.mk zo zk znm zfd zad zn zvk zvi zvf za))=true;rw [okL_cons];exact okX _) ⟨?_,trivial⟩
    rintro ws ⟨⟨yo,yk,ynm,yfd,yad,yn,yvk,yvi,yvf,ya⟩,e,rfl,hy⟩
    (refine it_c rfl rfl (λh=>?_) (λh=>?_)<;>simp only [Cmp,Decidable.not_not,Int.not_lt,Int.not_le]at h<;>try (exfalso;first|exact h trivial|omega))
    ·exact finE (y:=.mk _ _ _ _ _ _ _ _ _ _) rfl (λhe=>absurd he h)
    ·refine VOK_lt (run_app10 acc (.mk yo yk ynm yfd yad yn yvk yvi yvf ya) (by omega)) (okA _) (VOK_lt (add_c (by omega) (by omega)) rfl (VOK_again rfl ⟨(acc++[_],i+1),⟨by simp;omega,hi,?_⟩,rfl,by simp only;omega⟩))
     intro a ha
     rcases List.mem_append.1 ha with ha|ha
     ·exact h3 a ha
     ·cases List.mem_singleton.1 ha;exact (hy h).1
   have hi:i=args.length:=by omega
   subst hi
   have ha1:acc.length=1:=by unfold Ari at hA;omega
   obtain ⟨y,rfl⟩:=List.length_eq_one_iff.1 ha1
   have hy:=h3 y (List.mem_singleton.2 rfl)
   obtain ⟨yo,yk,ynm,yfd,yad,yn,yvk,yvi,yvf,ya⟩:=y
   (refine it_c rfl rfl (λh=>?_) (λh=>?_)<;>simp only [Cmp,Decidable.not_not,Int.not_lt,Int.not_le]at h<;>try (exfalso;first|exact h trivial|omega))
   refine callF' (p156 3 kd [107] fd ad n vk vi vf args _ rfl) rfl (by show okL (VARS::(encX (.mk 3 kd [107] fd ad n vk vi vf args)++[encA _]))=true;rw [okL_cons];exact encL_ok.okL_join (okX _) (by simp only [okL,okA])) ⟨?_,trivial⟩
   rintro ws ⟨e,rfl,he⟩
   refine finE (y:=.mk 3 2 [107] fd 8 4 vk vi vf [.mk _ _ _ _ _ _ _ _ _ _]) rfl (λh=>⟨⟨.inr (.inl ⟨.inl rfl,rfl⟩),hF,by decide,by decide,⟨λh=>by omega,λh=>by omega,λ_=>⟨rfl,rfl,rfl,_,rfl,he h⟩,λh=>by omega,λh=>by omega,λh=>by omega,λh=>by omega⟩,λa ha=>by cases List.mem_singleton.1 ha;exact hy⟩,rfl,λh=>by omega⟩)
  ·refine VOK_loop (ι:=List GX×Nat) (λs=>[encA s.1,.int .i64 (s.2:Int)]) (λs=>s.1.length=s.2/\s.2<=args.length/\∀a∈s.1,TX d a) (λs=>args.length-s.2) ([],0) ⟨rfl,Nat.zero_le _,λa ha=>(List.not_mem_nil ha).elim⟩ rfl (λs _=>by simp only [okL,okC,okA]) (λs s' _ _ h=>by simp at h;omega) (λs hs=>?_)
   obtain ⟨acc,i⟩:=s
   obtain ⟨h1,h2,h3⟩:=hs
   simp only at h1 h2 h3⊢
   refine VOK_lt (run_len38 args) rfl ?_
   (refine it_c rfl rfl (λh=>?_) (λh=>?_)<;>simp only [Cmp,Decidable.not_not,Int.not_lt,Int.not_le]at h<;>try (exfalso;first|exact h trivial|omega))
   ·have hi:i<args.length:=by omega
    have hld:=run_ld40 args hi
    have hz:=ih args[i] (List.getElem_mem hi)
    rcases hzz:args[i]with ⟨zo,zk,znm,zfd,zad,zn,zvk,zvi,zvf,za⟩
    rw [hzz]at hld hz
    refine VOK_lt (run_ia38 args hi) (encL_ok okX _) (VOK_ltN hld rfl (okX _) ?_)
    refine callF' hz rfl (by show okL (VARS::encX (.mk zo zk znm zfd zad zn zvk zvi zvf za))=true;rw [okL_cons];exact okX _) ⟨?_,trivial⟩
    rintro ws ⟨⟨yo,yk,ynm,yfd,yad,yn,yvk,yvi,yvf,ya⟩,e,rfl,hy⟩
    (refine it_c rfl rfl (λh=>?_) (λh=>?_)<;>simp only [Cmp,Decidable.not_not,Int.not_lt,Int.not_le]at h<;>try (exfalso;first|exact h trivial|omega))
    ·exact finE (y:=.mk _ _ _ _ _ _ _ _ _ _) rfl (λhe=>absurd he h)
    ·refine VOK_lt (run_app10 acc (.mk yo yk ynm yfd yad yn yvk yvi yvf ya) (by omega)) (okA _) (VOK_lt (add_c (by omega) (by omega)) rfl (VOK_again rfl ⟨(acc++[_],i+1),⟨by simp;omega,hi,?_⟩,rfl,by simp only;omega⟩))
     intro a ha
     rcases List.mem_append.1 ha with ha|ha
     ·exact h3 a ha
     ·cases List.mem_singleton.1 ha;exact (hy h).1
   have hi:i=args.length:=by omega
   subst hi
   by_cases hop:15<=op
   ·have hop2:op=15\/op=16\/op=17:=by unfold Ari at hA;omega
    have ha1:acc.length=1:=by unfold Ari at hA;omega
    obtain ⟨y,rfl⟩:=List.length_eq_one_iff.1 ha1
    have hy:=h3 y (List.mem_singleton.2 rfl)
    obtain ⟨yo,yk,ynm,yfd,yad,yn,yvk,yvi,yvf,ya⟩:=y
    have n4':op=17->2<=kd/\kd<=5:=n4
    rcases hop2 with rfl|rfl|rfl
    ·(refine it_c rfl rfl (λh=>?_) (λh=>?_)<;>simp only [Cmp,Decidable.not_not,Int.not_lt,Int.not_le]at h<;>try (exfalso;first|exact h trivial|omega))
     refine VOK_lt (r:=.int .i64 0) rfl rfl (VOK_lt (r:=.int .i64 yk) rfl rfl ?_)
     repeat' (first
               |(refine it_c rfl rfl (λh=>?_) (λh=>?_)<;>simp only [Cmp,Decidable.not_not,Int.not_lt,Int.not_le]at h<;>try (exfalso;first|exact h trivial|omega))
               |refine VOK_call (p92t _) rfl rfl ?_
               |refine VOK_call (p158 _) rfl rfl ?_
               |refine VOK_chk (.inr ⟨_,_,_,_,rfl,rfl⟩) ?_
               |refine it_d rfl (λh=>?_) (λh=>?_)
               |refine VOK_lt (run_eql ..) rfl ?_
               |refine VOK_lt (run_neq ..) rfl ?_)
     all_goals (first
                 |exact finE (y:=.mk _ _ _ _ _ _ _ _ _ _) rfl (λhe=>absurd he (by decide))
                 |(refine finE (y:=.mk _ _ _ _ _ _ _ _ _ [.mk _ _ _ _ _ _ _ _ _ _]) rfl (λhe=>?_)
                   have he2:=typ0 he
                   simp only [decide_eq_true_eq,Bool.not_eq_true',decide_eq_false_iff_not]at he2
                   refine ⟨TX1 hF hy ?_,rfl,λh=>by omega⟩
                   dsimp only [GX.kd]
                   omega)
                 |(refine finE (y:=.mk _ _ _ _ _ _ _ _ _ [.mk _ _ _ _ _ _ _ _ _ _]) rfl (λhe=>?_)
                   refine ⟨TX1 hF hy ?_,rfl,λh=>by omega⟩
                   dsimp only [GX.kd]
                   omega))
    ·(refine it_c rfl rfl (λh=>?_) (λh=>?_)<;>simp only [Cmp,Decidable.not_not,Int.not_lt,Int.not_le]at h<;>try (exfalso;first|exact h trivial|omega))
     refine VOK_lt (r:=.int .i64 0) rfl rfl (VOK_lt (r:=.int .i64 yk) rfl rfl ?_)
     repeat' (first
               |(refine it_c rfl rfl (λh=>?_) (λh=>?_)<;>simp only [Cmp,Decidable.not_not,Int.not_lt,Int.not_le]at h<;>try (exfalso;first|exact h trivial|omega))
               |refine VOK_call (p92t _) rfl rfl ?_
               |refine VOK_call (p158 _) rfl rfl ?_
               |refine VOK_chk (.inr ⟨_,_,_,_,rfl,rfl⟩) ?_
               |refine it_d rfl (λh=>?_) (λh=>?_)
               |refine VOK_lt (run_eql ..) rfl ?_
               |refine VOK_lt (run_neq ..) rfl ?_)
     all_goals (first
                 |exact finE (y:=.mk _ _ _ _ _ _ _ _ _ _) rfl (λhe=>absurd he (by decide))
                 |(refine finE (y:=.mk _ _ _ _ _ _ _ _ _ [.mk _ _ _ _ _ _ _ _ _ _]) rfl (λhe=>?_)
                   have he2:=typ0 he
                   simp only [decide_eq_true_eq,Bool.not_eq_true',decide_eq_false_iff_not]at he2
                   refine ⟨TX1 hF hy ?_,rfl,λh=>by omega⟩
                   dsimp only [GX.kd]
                   omega)
                 |(refine finE (y:=.mk _ _ _ _ _ _ _ _ _ [.mk _ _ _ _ _ _ _ _ _ _]) rfl (λhe=>?_)
                   refine ⟨TX1 hF hy ?_,rfl,λh=>by omega⟩
                   dsimp only [GX.kd]
                   omega))
    ·(refine it_c rfl rfl (λh=>?_) (λh=>?_)<;>simp only [Cmp,Decidable.not_not,Int.not_lt,Int.not_le]at h<;>try (exfalso;first|exact h trivial|omega))
     have n5:=n4 rfl
     refine VOK_lt (r:=.int .i64 0) rfl rfl (VOK_lt (r:=.int .i64 yk) rfl rfl ?_)
     repeat' (first
               |(refine it_c rfl rfl (λh=>?_) (λh=>?_)<;>simp only [Cmp,Decidable.not_not,Int.not_lt,Int.not_le]at h<;>try (exfalso;first|exact h trivial|omega))
               |refine VOK_call (p92t _) rfl rfl ?_
               |refine VOK_call (p158 _) rfl rfl ?_
               |refine VOK_chk (.inr ⟨_,_,_,_,rfl,rfl⟩) ?_
               |refine it_d rfl (λh=>?_) (λh=>?_)
               |refine VOK_lt (run_eql ..) rfl ?_
               |refine VOK_lt (run_neq ..) rfl ?_)
     all_goals (first
                 |exact finE (y:=.mk _ _ _ _ _ _ _ _ _ _) rfl (λhe=>absurd he (by decide))
                 |(refine finE (y:=.mk _ _ _ _ _ _ _ _ _ [.mk _ _ _ _ _ _ _ _ _ _]) rfl (λhe=>?_)
                   have he2:=typ0 he
                   simp only [decide_eq_true_eq,Bool.not_eq_true',decide_eq_false_iff_not]at he2
                   refine ⟨TX1 hF hy ?_,rfl,λh=>by omega⟩
                   dsimp only [GX.kd]
                   omega)
                 |(refine finE (y:=.mk _ _ _ _ _ _ _ _ _ [.mk _ _ _ _ _ _ _ _ _ _]) rfl (λhe=>?_)
                   refine ⟨TX1 hF hy ?_,rfl,λh=>by omega⟩
                   dsimp only [GX.kd]
                   omega))
   ·have hop2:4<=op/\op<=14:=by unfold Ari at hA;omega
    have ha1:acc.length=2:=by unfold Ari at hA;omega
    obtain ⟨y,z,rfl⟩:∃y z,acc=[y,z]:=by
     rcases acc with _|⟨y,_|⟨z,_|⟨w,t⟩⟩⟩<;>simp at ha1
     exact ⟨y,z,rfl⟩
    have hy:=h3 y (List.mem_cons_self ..)
    have hz:=h3 z (List.mem_cons_of_mem _ (List.mem_singleton.2 rfl))
    obtain ⟨yo,yk,ynm,yfd,yad,yn,yvk,yvi,yvf,ya⟩:=y
    obtain ⟨zo,zk,znm,zfd,zad,zn,zvk,zvi,zvf,za⟩:=z
    (refine it_c rfl rfl (λh=>?_) (λh=>?_)<;>simp only [Cmp,Decidable.not_not,Int.not_lt,Int.not_le]at h<;>try (exfalso;first|exact h trivial|omega))
    refine VOK_lt (r:=.int .i64 0) rfl rfl (VOK_lt (r:=.int .i64 yk) rfl rfl ?_)
    (refine it_c rfl rfl (λh=>?_) (λh=>?_)<;>simp only [Cmp,Decidable.not_not,Int.not_lt,Int.not_le]at h<;>try (exfalso;first|exact h trivial|omega));(refine it_c rfl rfl (λh=>?_) (λh=>?_)<;>simp only [Cmp,Decidable.not_not,Int.not_lt,Int.not_le]at h<;>try (exfalso;first|exact h trivial|omega));(refine it_c rfl rfl (λh=>?_) (λh=>?_)<;>simp only [Cmp,Decidable.not_not,Int.not_lt,Int.not_le]at h<;>try (exfalso;first|exact h trivial|omega));(refine it_c rfl rfl (λh=>?_) (λh=>?_)<;>simp only [Cmp,Decidable.not_not,Int.not_lt,Int.not_le]at h<;>try (exfalso;first|exact h trivial|omega))
    (refine it_c rfl rfl (λh=>?_) (λh=>?_)<;>simp only [Cmp,Decidable.not_not,Int.not_lt,Int.not_le]at h<;>try (exfalso;first|exact h trivial|omega))
    ·refine VOK_lt (r:=.int .i64 0) rfl rfl (VOK_ltN (cs:=encX (.mk yo yk ynm yfd yad yn yvk yvi yvf ya)) rfl rfl (okX _) (VOK_lt (r:=.int .i64 1) rfl rfl (VOK_lt (r:=.int .i64 zk) rfl rfl ?_)))
     obtain ⟨⟨yo1,yk1,ynm1,yfd1,yad1,yn1,yvk1,yvi1,yvf1,ya1⟩,hp1,hy1⟩:=p154 _ zk hy
     refine VOK_call hp1 rfl (okXe _) ?_
     refine VOK_lt (r:=.int .i64 1) rfl rfl (VOK_ltN (cs:=encX (.mk zo zk znm zfd zad zn zvk zvi zvf za)) rfl rfl (okX _) (VOK_lt (r:=.int .i64 0) rfl rfl (VOK_lt (r:=.int .i64 yk) rfl rfl ?_)))
     obtain ⟨⟨zo1,zk1,znm1,zfd1,zad1,zn1,zvk1,zvi1,zvf1,za1⟩,hp2,hz1⟩:=p154 _ yk hz
     refine VOK_call hp2 rfl (okXe _) ?_
     clear hy hz
     have hy:=hy1
     have hz:=hz1
     refine VOK_lt (r:=.int .i64 0) rfl rfl (VOK_lt (r:=encA [.mk yo1 yk1 ynm1 yfd1 yad1 yn1 yvk1 yvi1 yvf1 ya1,.mk zo zk znm zfd zad zn zvk zvi zvf za]) (run_stx40 [(.mk yo yk ynm yfd yad yn yvk yvi yvf ya),(.mk zo zk znm zfd zad zn zvk zvi zvf za)] (i:=0) (by simp) (.mk yo1 yk1 ynm1 yfd1 yad1 yn1 yvk1 yvi1 yvf1 ya1) .i64) (okA _) (VOK_lt (r:=.int .i64 1) rfl rfl (VOK_lt (r:=encA [.mk yo1 yk1 ynm1 yfd1 yad1 yn1 yvk1 yvi1 yvf1 ya1,.mk zo1 zk1 znm1 zfd1 zad1 zn1 zvk1 zvi1 zvf1 za1]) (run_stx40 [(.mk yo1 yk1 ynm1 yfd1 yad1 yn1 yvk1 yvi1 yvf1 ya1),(.mk zo zk znm zfd zad zn zvk zvi zvf za)] (i:=1) (by simp) (.mk zo1 zk1 znm1 zfd1 zad1 zn1 zvk1 zvi1 zvf1 za1) .i64) (okA _) ?_)))
     refine VOK_lt (r:=.int .i64 0) rfl rfl (VOK_lt (r:=.int .i64 yk1) rfl rfl (VOK_lt (r:=.int .i64 1) rfl rfl (VOK_lt (r:=.int .i64 zk1) rfl rfl ?_)))
     repeat' (first
               |(refine it_c rfl rfl (λh=>?_) (λh=>?_)<;>simp only [Cmp,Decidable.not_not,Int.not_lt,Int.not_le]at h<;>try (exfalso;first|exact h trivial|omega))
               |refine VOK_call (p92t _) rfl rfl ?_
               |refine VOK_call (p158 _) rfl rfl ?_
               |refine VOK_chk (.inr ⟨_,_,_,_,rfl,rfl⟩) ?_
               |refine it_d rfl (λh=>?_) (λh=>?_)
               |refine VOK_lt (run_eql ..) rfl ?_
               |refine VOK_lt (run_neq ..) rfl ?_)
     all_goals (
                refine finE (y:=.mk _ _ _ _ _ _ _ _ _ [.mk _ _ _ _ _ _ _ _ _ _,.mk _ _ _ _ _ _ _ _ _ _]) rfl (λhe=>?_)
                have he2:=typ0 he
                first
                 |(exact absurd he2 (by decide))
                 |(simp only [decide_eq_true_eq,Bool.not_eq_true',decide_eq_false_iff_not]at he2
                   exact ⟨TX2 hF hy hz (by omega) (by dsimp only [GX.kd];omega) (by dsimp only [GX.kd];omega) (by omega) (by dsimp only [GX.kd];omega) (by dsimp only [GX.kd];omega) (by dsimp only [GX.kd];omega),rfl,λh=>by omega⟩))
    ·refine VOK_lt (r:=.int .i64 1) rfl rfl (VOK_lt (r:=.int .i64 zk) rfl rfl ?_)
     repeat' (first
               |(refine it_c rfl rfl (λh=>?_) (λh=>?_)<;>simp only [Cmp,Decidable.not_not,Int.not_lt,Int.not_le]at h<;>try (exfalso;first|exact h trivial|omega))
               |refine VOK_call (p92t _) rfl rfl ?_
               |refine VOK_call (p158 _) rfl rfl ?_
               |refine VOK_chk (.inr ⟨_,_,_,_,rfl,rfl⟩) ?_
               |refine it_d rfl (λh=>?_) (λh=>?_)
               |refine VOK_lt (run_eql ..) rfl ?_
               |refine VOK_lt (run_neq ..) rfl ?_)
     all_goals (
                refine finE (y:=.mk _ _ _ _ _ _ _ _ _ [.mk _ _ _ _ _ _ _ _ _ _,.mk _ _ _ _ _ _ _ _ _ _]) rfl (λhe=>?_)
                have he2:=typ0 he
                first
                 |(exact absurd he2 (by decide))
                 |(simp only [decide_eq_true_eq,Bool.not_eq_true',decide_eq_false_iff_not]at he2
                   exact ⟨TX2 hF hy hz (by omega) (by dsimp only [GX.kd];omega) (by dsimp only [GX.kd];omega) (by omega) (by dsimp only [GX.kd];omega) (by dsimp only [GX.kd];omega) (by dsimp only [GX.kd];omega),rfl,λh=>by omega⟩))
end Go.Proofs.YtjconanknjgpnaaGreat.vars
set_option linter.unusedVariables false
set_option linter.unusedSimpArgs false
namespace Go.Proofs.YtjconanknjgpnaaGreat.vars
open Go Go.Sx
structure FV where
 k:Int
 i:Int
 f:Option Nat
def FV.z:FV:=⟨0,0,some 0⟩
def encV (v:FV):List AV:=[.int .i64 v.k,.int .i64 v.i,fv v.f]
theorem lenV (v:FV):(encV v).length=3:=rfl
theorem okV (v:FV):okL (encV v)=true:=by
 simp only [encV,okL,okC,fv_ok]
def InK (k i:Int):Prop:=(k=1/\0<=i/\i<=1)\/(k=2/\ -32768<=i/\i<=32767)\/(k=3/\ -2147483648<=i/\i<=2147483647)\/(k=4/\ -9223372036854775808<=i/\i<=9223372036854775807)\/(k=5/\i=0)
def TV (v:FV):Prop:=InK v.k v.i/\(v.k≠5->v.f=some 0)
theorem InK.kd {k i:Int} (h:InK k i):1<=k/\k<=5:=by
 rcases h with h|h|h|h|h<;>omega
theorem InK.i64 {k i:Int} (h:InK k i): -9223372036854775808<=i/\i<=9223372036854775807:=by
 rcases h with h|h|h|h|h<;>omega
def wrapK (k i:Int):Int:=if k=1 then (if i=0 then 0 else 1)else if k=2 then IntKind.i16.wrap i else if k=3 then IntKind.i32.wrap i else if k=4 then i else 0
theorem wrap16_in (i:Int): -32768<=IntKind.i16.wrap i/\IntKind.i16.wrap i<=32767:=by
 simp [IntKind.wrap,IntKind.bits,IntKind.signed];omega
theorem wrap32_in (i:Int): -2147483648<=IntKind.i32.wrap i/\IntKind.i32.wrap i<=2147483647:=by
 simp [IntKind.wrap,IntKind.bits,IntKind.signed];omega
theorem wrap64_in (i:Int): -9223372036854775808<=IntKind.i64.wrap i/\IntKind.i64.wrap i<=9223372036854775807:=by
 simp [IntKind.wrap,IntKind.bits,IntKind.signed];omega
theorem wrap16_id {i:Int} (h1: -32768<=i) (h2:i<=32767):IntKind.i16.wrap i=i:=by
 simp [IntKind.wrap,IntKind.bits,IntKind.signed];omega
theorem wrap32_id {i:Int} (h1: -2147483648<=i) (h2:i<=2147483647):IntKind.i32.wrap i=i:=by
 simp [IntKind.wrap,IntKind.bits,IntKind.signed];omega
theorem wrapK_in {k i:Int} (h1:1<=k) (h2:k<=4) (h3: -9223372036854775808<=i) (h4:i<=9223372036854775807):InK k (wrapK k i):=by
 have a:=wrap16_in i
 have b:=wrap32_in i
 unfold InK wrapK
 rcases (by omega:k=1\/k=2\/k=3\/k=4)with rfl|rfl|rfl|rfl
 ·simp only [if_true]
  split
  ·exact .inl ⟨trivial,by decide,by decide⟩
  ·exact .inl ⟨trivial,by decide,by decide⟩
 ·exact .inr (.inl ⟨rfl,a⟩)
 ·exact .inr (.inr (.inl ⟨rfl,b⟩))
 ·exact .inr (.inr (.inr (.inl ⟨rfl,h3,h4⟩)))
theorem wrapK_id {k i:Int} (h:InK k i) (hk:k≠5):wrapK k i=i:=by
 unfold wrapK
 rcases h with ⟨rfl,h,h'⟩|⟨rfl,h,h'⟩|⟨rfl,h,h'⟩|⟨rfl,h,h'⟩|⟨rfl,h⟩
 ·simp only [if_true]
  split<;>omega
 ·simp [wrap16_id h h']
 ·simp [wrap32_id h h']
 ·simp
 ·exact absurd rfl hk
def tI (b:Bool):Int:=if b=true then 1 else 0
def w64 (i:Int):Int:=IntKind.i64.wrap i
def intV (op k a b:Int):Int:=
 if op=4 then wrapK k (w64 (a+b))else if op=5 then wrapK k (w64 (a-b))else if op=6 then wrapK k (w64 (a*b))else if op=7 then wrapK k (w64 (a.tdiv b))else if op=8 then wrapK k (a.tmod b)
 else if op=9 then tI (decide (a=b))else if op=10 then tI (decide (¬a=b))else if op=11 then tI (decide (a<b))else if op=12 then tI (decide (a<=b))
 else if op=13 then tI (decide (¬a=0)&&decide (¬b=0))else if op=14 then tI (decide (¬a=0)||decide (¬b=0))else if op=15 then tI (decide (a=0))else wrapK k (w64 (0-a))
def intE (op b:Int):Int:=if (op=7\/op=8)/\b=0 then 5 else 0
def OpK (op k:Int):Prop:=4<=op/\op<=16/\1<=k/\k<=5/\(op<=8\/op=16\/op=11\/op=12->k≠1)/\(op=8->k≠5)/\(13<=op/\op<=15->k=1)
theorem tI_in (b:Bool):InK 1 (tI b):=by
 cases b
 ·exact .inl ⟨rfl,by decide,by decide⟩
 ·exact .inl ⟨rfl,by decide,by decide⟩
theorem tmod_in {k a b:Int} (h:InK k a) (hk:k≠5) (hk1:k≠1):InK k (a.tmod b):=by
 have h1:(a.tmod b).natAbs<=a.natAbs:=by
  rw [Int.natAbs_tmod]
  exact Nat.mod_le _ _
 have h2:0<=a->0<=a.tmod b:=λh=>Int.tmod_nonneg _ h
 have h3:¬(a<0/\0<a.tmod b):=λ⟨p,q⟩=>by
  have:=Int.tmod_nonneg (a:= -a) b (by omega)
  rw [Int.neg_tmod]at this
  omega
 rcases h with h|h|h|h|h
 ·omega
 ·exact .inr (.inl (by omega))
 ·exact .inr (.inr (.inl (by omega)))
 ·exact .inr (.inr (.inr (.inl (by omega))))
 ·omega
theorem intV_in {op k a b:Int} (h:OpK op k) (hk:k≠5) (ha:InK k a):InK (if 9<=op/\op<=12 then 1 else k) (intV op k a b):=by
 obtain ⟨h1,h2,h3,h4,h5,h6,h7⟩:=h
 have hw:∀i,InK k (wrapK k (w64 i)):=λi=>wrapK_in h3 (by omega) (wrap64_in i).1 (wrap64_in i).2
 unfold intV
 by_cases c4:op=4
 ·subst c4;simp only [if_true,if_false,show ¬((9:Int)<=4/\(4:Int)<=12) by omega];exact hw _
 rw [if_neg c4]
 by_cases c5:op=5
 ·subst c5;simp only [if_true,if_false,show ¬((9:Int)<=5/\(5:Int)<=12) by omega];exact hw _
 rw [if_neg c5]
 by_cases c6:op=6
 ·subst c6;simp only [if_true,if_false,show ¬((9:Int)<=6/\(6:Int)<=12) by omega];exact hw _
 rw [if_neg c6]
 by_cases c7:op=7
 ·subst c7;simp only [if_true,if_false,show ¬((9:Int)<=7/\(7:Int)<=12) by omega];exact hw _
 rw [if_neg c7]
 by_cases c8:op=8
 ·subst c8
  simp only [if_true,if_false,show ¬((9:Int)<=8/\(8:Int)<=12) by omega]
  have:=tmod_in (b:=b) ha hk (h5 (by omega))
  rw [wrapK_id this hk]
  exact this
 rw [if_neg c8]
 by_cases c9:op=9
 ·subst c9;simp only [if_true,show ((9:Int)<=9/\(9:Int)<=12) by omega];exact tI_in _
 rw [if_neg c9]
 by_cases c10:op=10
 ·subst c10;simp only [if_true,show ((9:Int)<=10/\(10:Int)<=12) by omega];exact tI_in _
 rw [if_neg c10]
 by_cases c11:op=11
 ·subst c11;simp only [if_true,show ((9:Int)<=11/\(11:Int)<=12) by omega];exact tI_in _
 rw [if_neg c11]
 by_cases c12:op=12
 ·subst c12;simp only [if_true,show ((9:Int)<=12/\(12:Int)<=12) by omega];exact tI_in _
 rw [if_neg c12,if_neg (show ¬(9<=op/\op<=12) by omega)]
 by_cases c13:op=13
 ·rw [if_pos c13,h7 (by omega)];exact tI_in _
 rw [if_neg c13]
 by_cases c14:op=14
 ·rw [if_pos c14,h7 (by omega)];exact tI_in _
 rw [if_neg c14]
 by_cases c15:op=15
 ·rw [if_pos c15,h7 (by omega)];exact tI_in _
 rw [if_neg c15]
 exact hw _
theorem tdiv_m1 (a:Int):a.tdiv (-1)= -a:=by rw [Int.tdiv_neg,Int.tdiv_one]
theorem tmod_m1 (a:Int):a.tmod (-1)=0:=by rw [Int.tmod_neg,Int.tmod_one]
theorem tdiv_in {k a b:Int} (h:InK k a) (hk:k≠5) (hk1:k≠1) (hb:b≠ -1):InK k (a.tdiv b):=by
 have h1:(a.tdiv b).natAbs<=a.natAbs:=by
  rw [Int.natAbs_tdiv]
  exact Nat.div_le_self _ _
 have key:a.tdiv b= -a->0<=a\/a.tdiv b=a:=λe=>by
  by_cases ha:0<=a
  ·exact .inl ha
  ·exfalso
   have h2:(a.tdiv b).natAbs=a.natAbs:=by rw [e,Int.natAbs_neg]
   rw [Int.natAbs_tdiv]at h2
   have h3:b.natAbs=1:=by
    have h4:0<a.natAbs:=by omega
    rcases Nat.lt_trichotomy b.natAbs 1 with h5|h5|h5
    ·have:b.natAbs=0:=by omega
     rw [this]at h2
     have:a.natAbs.div 0=0:=Nat.div_zero _
     omega
    ·exact h5
    ·have:a.natAbs.div b.natAbs<a.natAbs:=Nat.div_lt_self h4 h5
     omega
   have h6:b=1:=by omega
   rw [h6,Int.tdiv_one]at e
   omega
 rcases h with h|h|h|h|h
 ·omega
 ·refine .inr (.inl ⟨h.1,?_⟩)
  have:a.tdiv b≠ -a\/0<=a\/a.tdiv b=a:=by by_cases e:a.tdiv b= -a;exact .inr (key e);exact .inl e
  omega
 ·refine .inr (.inr (.inl ⟨h.1,?_⟩))
  have:a.tdiv b≠ -a\/0<=a\/a.tdiv b=a:=by by_cases e:a.tdiv b= -a;exact .inr (key e);exact .inl e
  omega
 ·refine .inr (.inr (.inr (.inl ⟨h.1,?_⟩)))
  have:a.tdiv b≠ -a\/0<=a\/a.tdiv b=a:=by by_cases e:a.tdiv b= -a;exact .inr (key e);exact .inl e
  omega
 ·omega
def ordR (op:Int) (o:Option Ordering):Bool:=if op=9 then o==some .eq else if op=10 then o !=some .eq else if op=11 then o==some .lt else o==some .lt||o==some .eq
def realV (op:Int) (a b:Option Nat):FV:=
 if op=4 then ⟨5,0,fArith FloatKind.f64.format.add a b⟩else if op=5 then ⟨5,0,fArith FloatKind.f64.format.sub a b⟩else if op=6 then ⟨5,0,fArith FloatKind.f64.format.mul a b⟩else if op=7 then ⟨5,0,fArith FloatKind.f64.format.div a b⟩
 else if op=16 then ⟨5,0,a.map (Op.negFloat .f64)⟩else ⟨1,tI (ordR op (ordF a b)),some 0⟩
def opV (op k:Int) (a b:FV):FV:=if k=5 then realV op a.f b.f else ⟨if 9<=op/\op<=12 then 1 else k,intV op k a.i b.i,some 0⟩
def opE (op k:Int) (b:FV):Int:=if k=5 then 0 else intE op b.i
theorem realV_TV (op:Int) (a b:Option Nat):TV (realV op a b):=by
 have r:∀f,TV ⟨5,0,f⟩:=λf=>⟨.inr (.inr (.inr (.inr ⟨rfl,rfl⟩))),λh=>absurd rfl h⟩
 unfold realV
 split;· exact r _
 split;· exact r _
 split;· exact r _
 split;· exact r _
 split;· exact r _
 exact ⟨tI_in _,λ_=>rfl⟩
theorem opV_TV {op k:Int} {a b:FV} (h:OpK op k) (ha:TV a) (hk:a.k=k):TV (opV op k a b):=by
 unfold opV
 split
 ·exact realV_TV ..
 ·rename_i h5
  exact ⟨intV_in h h5 (hk▸ha.1),λ_=>rfl⟩
theorem opV_k {op k:Int} {a b:FV} (h:OpK op k):(opV op k a b).k=if (9<=op/\op<=12)then 1 else k:=by
 obtain ⟨h1,h2,h3,h4,h5,h6,h7⟩:=h
 unfold opV
 split
 ·rename_i e
  unfold realV
  split;· rw [if_neg (by omega),e]
  split;· rw [if_neg (by omega),e]
  split;· rw [if_neg (by omega),e]
  split;· rw [if_neg (by omega),e]
  split;· rw [if_neg (by omega),e]
  rw [if_pos (by omega)]
 ·rfl
def hiK (k:Int):Nat:=if k=2 then 4674736413210574848 else if k=3 then 4746794007248502784 else 4890909195324358656
def loK (k:Int):Nat:=if k=2 then 13898108450065350656 else if k=3 then 13970166044103278592 else 14114281232179134464
def wholeV (k:Int) (f:Option Nat):Option Int:=
 if nanF f=true then none else if ordF (truncF f) (some (loK k))=some .lt then none else if ordF (truncF f) (some (hiK k))=some .lt then wholeF (truncF f)else none
theorem wholeV_in {k:Int} {f:Option Nat} {n:Int} (hk:2<=k/\k<=4) (h:wholeV k f=some n):InK k n:=by
 unfold wholeV at h
 split at h;· cases h
 split at h;· cases h
 rename_i h1
 split at h
 ·rename_i h2
  rcases (by omega:k=2\/k=3\/k=4)with rfl|rfl|rfl
  ·obtain ⟨m,e,a,b⟩:=wholeF_range (k:=15) (j:= -37) rfl (by kernel_rfl) (by kernel_rfl) h1 h2
   rw [h]at e;cases e
   exact .inr (.inl ⟨rfl,by omega,by omega⟩)
  ·obtain ⟨m,e,a,b⟩:=wholeF_range (k:=31) (j:= -21) rfl (by kernel_rfl) (by kernel_rfl) h1 h2
   rw [h]at e;cases e
   exact .inr (.inr (.inl ⟨rfl,by omega,by omega⟩))
  ·obtain ⟨m,e,a,b⟩:=wholeF_range (k:=63) (j:=11) rfl (by kernel_rfl) (by kernel_rfl) h1 h2
   rw [h]at e;cases e
   exact .inr (.inr (.inr (.inl ⟨rfl,by omega,by omega⟩)))
 ·cases h
def convV (kd:Int) (v:FV):Except Int FV:=
 if kd=5 then (if v.k=5 then .ok v else .ok ⟨5,0,some (FloatKind.f64.nearest v.i)⟩)
 else if v.k=5 then (match wholeV kd v.f with|some n=>.ok ⟨kd,n,some 0⟩|none=>.error 7)
 else .ok ⟨kd,wrapK kd v.i,some 0⟩
theorem convV_TV {kd:Int} {v w:FV} (hk:2<=kd/\kd<=5) (hv:TV v) (h:convV kd v=.ok w):TV w/\w.k=kd:=by
 unfold convV at h
 split at h
 ·rename_i e
  split at h
  ·rename_i e'
   cases h
   exact ⟨hv,by omega⟩
  ·cases h
   exact ⟨⟨.inr (.inr (.inr (.inr ⟨rfl,rfl⟩))),λh=>absurd rfl h⟩,e.symm⟩
 ·split at h
  ·split at h
   ·rename_i n hn
    cases h
    exact ⟨⟨wholeV_in (k:=kd) (by omega) hn,λ_=>rfl⟩,rfl⟩
   ·cases h
  ·cases h
   have:=hv.1.i64
   exact ⟨⟨wrapK_in (k:=kd) (by omega) (by omega) this.1 this.2,λ_=>rfl⟩,rfl⟩
end Go.Proofs.YtjconanknjgpnaaGreat.vars
set_option maxRecDepth 100000
set_option linter.unusedVariables false
set_option linter.unusedSimpArgs false
namespace Go.Proofs.YtjconanknjgpnaaGreat.vars
open Go Go.Sx
def c160:VC:=⟨⟨[],[]⟩,[],[],0,true,[]⟩
def t160:VT:=
 (.ite 64
 (.done (J 1))
 (.done (J 0)))
def c162:VC:=⟨⟨[],[]⟩,[],[],0,true,[]⟩
def t162:VT:=
 (.lt (.bin .eql 3 false true) [64,J 9] 67 none
 (.ite 67
 (.lt (.bin .eql 2 false false) [65,66] 68 none
 (.done (.tup [.bool true,68])))
 (.lt (.bin .eql 3 false true) [64,J 10] 68 none
 (.ite 68
 (.lt (.bin .neq 2 false false) [65,66] 69 none
 (.done (.tup [.bool true,69])))
 (.lt (.bin .eql 3 false true) [64,J 11] 69 none
 (.ite 69
 (.lt (.bin .lss 2 false false) [65,66] 70 none
 (.done (.tup [.bool true,70])))
 (.lt (.bin .eql 3 false true) [64,J 12] 70 none
 (.ite 70
 (.lt (.bin .leq 2 false false) [65,66] 71 none
 (.done (.tup [.bool true,71])))
 (.done (.tup [.bool false,.bool false]))))))))))
def c164:VC:=⟨⟨[],[]⟩,[(160,[none])],[],0,true,[]⟩
def t164:VT:=
 (.lt (.bin .eql 3 false true) [64,J 13] 67 none
 (.ite 67
 (.lt (.bin .neq 2 false true) [65,J 0] 68 none
 (.ite 68
 (.lt (.bin .neq 2 false true) [66,J 0] 69 none
 (.call 160 [69] 70 [none]
 (.done (70))))
 (.call 160 [.bool false] 69 [none]
 (.done (69)))))
 (.lt (.bin .eql 3 false true) [64,J 14] 68 none
 (.ite 68
 (.lt (.bin .neq 2 false true) [65,J 0] 69 none
 (.ite 69
 (.call 160 [.bool true] 70 [none]
 (.done (70)))
 (.lt (.bin .neq 2 false true) [66,J 0] 70 none
 (.call 160 [70] 71 [none]
 (.done (71))))))
 (.lt (.bin .eql 3 false true) [64,J 15] 69 none
 (.ite 69
 (.lt (.bin .eql 2 false true) [65,J 0] 70 none
 (.call 160 [70] 71 [none]
 (.done (71))))
 (.done (J 0))))))))
def c123:VC:=⟨⟨[],[]⟩,[(160,[none])],[],0,true,[]⟩
def t123:VT:=
 (.lt (.bin .eql 3 false true) [64,J 1] 66 none
 (.ite 66
 (.lt (.bin .neq 2 false true) [65,J 0] 67 none
 (.call 160 [67] 68 [none]
 (.done (68))))
 (.lt (.bin .eql 3 false true) [64,J 2] 67 none
 (.ite 67
 (.lt (.conv 2 206) [65] 68 none
 (.lt (.conv 206 2) [68] 69 none
 (.done (69))))
 (.lt (.bin .eql 3 false true) [64,J 3] 68 none
 (.ite 68
 (.lt (.conv 2 21) [65] 69 none
 (.lt (.conv 21 2) [69] 70 none
 (.done (70))))
 (.lt (.bin .eql 3 false true) [64,J 4] 69 none
 (.ite 69
 (.done (65))
 (.done (J 0))))))))))
def c163:VC:=⟨⟨[],[]⟩,[],[],0,true,[]⟩
def t163:VT:=
 (.done (.tup [J 0,64]))
def c179:VC:=⟨⟨[],[]⟩,[],[],0,true,[(163,ft163)]⟩
def t179:VT:=
 (.lt (.bin .eql 2 false true) [66,J 0] 67 none
 (.ite 67
 (.callF 163 ft163 [J 5] 68
 (.cons 1
 (.done (.tup [J 1,69]))
 .nil))
 (.lt (.bin .eql 3 false true) [64,J 8] 68 none
 (.ite 68
 (.lt (.bin .rem 2 false false) [65,66] 69 none
 (.done (.tup [J 0,69])))
 (.lt (.bin .quo 2 false false) [65,66] 69 none
 (.done (.tup [J 0,69])))))))
def c165:VC:=⟨⟨[],[]⟩,[],[],0,true,[(163,ft163),(179,ft179)]⟩
def t165:VT:=
 (.lt (.bin .eql 3 false true) [64,J 4] 67 none
 (.ite 67
 (.lt (.bin .add 2 false false) [65,66] 68 none
 (.done (.tup [J 0,68])))
 (.lt (.bin .eql 3 false true) [64,J 5] 68 none
 (.ite 68
 (.lt (.bin .sub 2 false false) [65,66] 69 none
 (.done (.tup [J 0,69])))
 (.lt (.bin .eql 3 false true) [64,J 6] 69 none
 (.ite 69
 (.lt (.bin .mul 2 false false) [65,66] 70 none
 (.done (.tup [J 0,70])))
 (.lt (.bin .eql 3 false true) [64,J 16] 70 none
 (.ite 70
 (.lt (.un .neg) [65] 71 none
 (.done (.tup [J 0,71])))
 (.lt (.bin .eql 3 false true) [64,J 7] 71 none
 (.ite 71
 (.callF 179 ft179 [64,65,66] 72
 (.cons 1
 (.done (.tup [J 0,75]))
 (.cons 1
 (.done (.tup [J 1,75]))
 .nil)))
 (.lt (.bin .eql 3 false true) [64,J 8] 72 none
 (.ite 72
 (.callF 179 ft179 [64,65,66] 73
 (.cons 1
 (.done (.tup [J 0,76]))
 (.cons 1
 (.done (.tup [J 1,76]))
 .nil)))
 (.callF 163 ft163 [J 4] 73
 (.cons 1
 (.done (.tup [J 1,74]))
 .nil))))))))))))))
def c126k1:VC:=⟨⟨[],[]⟩,[(162,[none,none]),(164,[none]),(160,[none]),(123,[none])],[],0,true,[(163,ft163),(165,ft165)]⟩
def t126k1:VT:=
 (.call 162 [64,65,66] 67 [none,none]
 (.lt (.bin .eql 3 false true) [64,J 13] 69 none
 (.ite 69
 (.call 164 [64,65,66] 70 [none]
 (.done (.tup [70,J 0])))
 (.lt (.bin .eql 3 false true) [64,J 14] 70 none
 (.ite 70
 (.call 164 [64,65,66] 71 [none]
 (.done (.tup [71,J 0])))
 (.lt (.bin .eql 3 false true) [64,J 15] 71 none
 (.ite 71
 (.call 164 [64,65,66] 72 [none]
 (.done (.tup [72,J 0])))
 (.lt (.bin .neq 3 false true) [64,J 9] 72 none
 (.ite 72
 (.lt (.bin .neq 3 false true) [64,J 10] 73 none
 (.ite 73
 (.callF 163 ft163 [J 4] 74
 (.cons 1
 (.done (.tup [J 0,75]))
 .nil))
 (.ite 67
 (.call 160 [68] 74 [none]
 (.done (.tup [74,J 0])))
 (.callF 165 ft165 [64,65,66] 74
 (.cons 1
 (.call 123 [J 1,77] 78 [none]
 (.done (.tup [78,J 0])))
 (.cons 1
 (.done (.tup [J 0,77]))
 .nil))))))
 (.ite 67
 (.call 160 [68] 73 [none]
 (.done (.tup [73,J 0])))
 (.callF 165 ft165 [64,65,66] 73
 (.cons 1
 (.call 123 [J 1,76] 77 [none]
 (.done (.tup [77,J 0])))
 (.cons 1
 (.done (.tup [J 0,76]))
 .nil)))))))))))))
def c126k2:VC:=⟨⟨[],[]⟩,[(162,[none,none]),(164,[none]),(160,[none]),(123,[none])],[],0,true,[(163,ft163),(165,ft165)]⟩
def t126k2:VT:=
 (.call 162 [64,65,66] 67 [none,none]
 (.ite 67
 (.call 160 [68] 69 [none]
 (.done (.tup [69,J 0])))
 (.callF 165 ft165 [64,65,66] 69
 (.cons 1
 (.call 123 [J 2,72] 73 [none]
 (.done (.tup [73,J 0])))
 (.cons 1
 (.done (.tup [J 0,72]))
 .nil)))))
def c126k3:VC:=⟨⟨[],[]⟩,[(162,[none,none]),(164,[none]),(160,[none]),(123,[none])],[],0,true,[(163,ft163),(165,ft165)]⟩
def t126k3:VT:=
 (.call 162 [64,65,66] 67 [none,none]
 (.ite 67
 (.call 160 [68] 69 [none]
 (.done (.tup [69,J 0])))
 (.callF 165 ft165 [64,65,66] 69
 (.cons 1
 (.call 123 [J 3,72] 73 [none]
 (.done (.tup [73,J 0])))
 (.cons 1
 (.done (.tup [J 0,72]))
 .nil)))))
def c126k4:VC:=⟨⟨[],[]⟩,[(162,[none,none]),(164,[none]),(160,[none]),(123,[none])],[],0,true,[(163,ft163),(165,ft165)]⟩
def t126k4:VT:=
 (.call 162 [64,65,66] 67 [none,none]
 (.ite 67
 (.call 160 [68] 69 [none]
 (.done (.tup [69,J 0])))
 (.callF 165 ft165 [64,65,66] 69
 (.cons 1
 (.call 123 [J 4,72] 73 [none]
 (.done (.tup [73,J 0])))
 (.cons 1
 (.done (.tup [J 0,72]))
 .nil)))))
theorem p160 (b:Bool):Pure Tryz.prog 160 [.bool b] (.int .i64 (tI b)):=by
 refine pure_shape (sh:=[none]) (ls:=[.bool b]) (c:=c160) (n:=300) (t:=t160) mo ov rfl rfl rfl (λY _=>known0 _) rfl (by kernel_rfl) λY hf hg=>?_
 unfold t160
 cases b
 ·exact VOK_ite (t:=false) rfl (λh=>by cases h) (λh=>VOK_done rfl)
 ·exact VOK_ite (t:=true) rfl (λh=>VOK_done rfl) (λh=>by cases h)
def cmpV (op a b:Int):Bool:=if op=9 then decide (a=b)else if op=10 then decide (¬a=b)else if op=11 then decide (a<b)else if op=12 then decide (a<=b)else false
theorem p162 (op a b:Int):Pure Tryz.prog 162 [.int .i64 op,.int .i64 a,.int .i64 b] (.tup [.bool (decide (9<=op/\op<=12)),.bool (cmpV op a b)]):=by
 refine pure_shape (sh:=[none,none,none]) (ls:=[.int .i64 op,.int .i64 a,.int .i64 b]) (c:=c162) (n:=300) (t:=t162) mo ov rfl rfl rfl (λY _=>known0 _) rfl (by kernel_rfl) λY hf hg=>?_
 unfold t162
 (refine it_c rfl rfl (λh=>?_) (λh=>?_)<;>simp only [Cmp,Decidable.not_not,Int.not_lt,Int.not_le]at h<;>try (exfalso;first|exact h trivial|omega))
 ·subst h;exact VOK_lt (run_eql ..) rfl (VOK_done (by rfl))
 (refine it_c rfl rfl (λh=>?_) (λh=>?_)<;>simp only [Cmp,Decidable.not_not,Int.not_lt,Int.not_le]at h<;>try (exfalso;first|exact h trivial|omega))
 ·subst h;exact VOK_lt (run_neq ..) rfl (VOK_done (by rw [show cmpV 10 a b=decide (¬a=b) from rfl];simp;rfl))
 (refine it_c rfl rfl (λh=>?_) (λh=>?_)<;>simp only [Cmp,Decidable.not_not,Int.not_lt,Int.not_le]at h<;>try (exfalso;first|exact h trivial|omega))
 ·subst h;exact VOK_lt (run_lss ..) rfl (VOK_done (by rfl))
 (refine it_c rfl rfl (λh=>?_) (λh=>?_)<;>simp only [Cmp,Decidable.not_not,Int.not_lt,Int.not_le]at h<;>try (exfalso;first|exact h trivial|omega))
 ·subst h;exact VOK_lt (run_leq ..) rfl (VOK_done (by rfl))
 refine VOK_done ?_
 have e1:decide (9<=op/\op<=12)=false:=decide_eq_false (by omega)
 have e2:cmpV op a b=false:=by unfold cmpV;simp only [*,if_false]
 rw [e1,e2]
 rfl
theorem p164 (op a b:Int) (ho:13<=op/\op<=15):Pure Tryz.prog 164 [.int .i64 op,.int .i64 a,.int .i64 b] (.int .i64 (intV op 1 a b)):=by
 refine pure_shape (sh:=[none,none,none]) (ls:=[.int .i64 op,.int .i64 a,.int .i64 b]) (c:=c164) (n:=300) (t:=t164) mo ov rfl rfl rfl (λY _=>known0 _) rfl (by kernel_rfl) λY hf hg=>?_
 unfold t164
 (refine it_c rfl rfl (λh=>?_) (λh=>?_)<;>simp only [Cmp,Decidable.not_not,Int.not_lt,Int.not_le]at h<;>try (exfalso;first|exact h trivial|omega))
 ·subst h
  have e:intV 13 1 a b=tI (decide (¬a=0)&&decide (¬b=0)):=rfl
  rw [e]
  (refine it_c rfl rfl (λh=>?_) (λh=>?_)<;>simp only [Cmp,Decidable.not_not,Int.not_lt,Int.not_le]at h<;>try (exfalso;first|exact h trivial|omega))
  ·refine VOK_lt (run_neq ..) rfl (VOK_call (p160 _) rfl rfl (VOK_done ?_))
   rw [decide_eq_true h,Bool.true_and]
   by_cases hb:b=0<;>simp [hb]<;>rfl
  ·rw [decide_eq_false (by omega),Bool.false_and]
   exact VOK_call (p160 false) rfl rfl (VOK_done rfl)
 (refine it_c rfl rfl (λh=>?_) (λh=>?_)<;>simp only [Cmp,Decidable.not_not,Int.not_lt,Int.not_le]at h<;>try (exfalso;first|exact h trivial|omega))
 ·subst h
  have e:intV 14 1 a b=tI (decide (¬a=0)||decide (¬b=0)):=rfl
  rw [e]
  (refine it_c rfl rfl (λh=>?_) (λh=>?_)<;>simp only [Cmp,Decidable.not_not,Int.not_lt,Int.not_le]at h<;>try (exfalso;first|exact h trivial|omega))
  ·rw [decide_eq_true h,Bool.true_or]
   exact VOK_call (p160 true) rfl rfl (VOK_done rfl)
  ·refine VOK_lt (run_neq ..) rfl (VOK_call (p160 _) rfl rfl (VOK_done ?_))
   rw [decide_eq_false (p:=¬a=0) (by omega),Bool.false_or]
   by_cases hb:b=0<;>simp [hb]<;>rfl
 (refine it_c rfl rfl (λh=>?_) (λh=>?_)<;>simp only [Cmp,Decidable.not_not,Int.not_lt,Int.not_le]at h<;>try (exfalso;first|exact h trivial|omega))
 subst h
 exact VOK_lt (run_eql ..) rfl (VOK_call (p160 _) rfl rfl (VOK_done rfl))
theorem cv16 (i:Int):(XOp.conv 2 206).run Tryz.prog [.int .i64 i]=some (.int .i16 (IntKind.i16.wrap i)):=run_conv_ii Tryz.underlying2 Tryz.underlying206 i
theorem cv16' (i:Int):(XOp.conv 206 2).run Tryz.prog [.int .i16 (IntKind.i16.wrap i)]=some (.int .i64 (IntKind.i16.wrap i)):=by
 have:=wrap16_in i
 rw [run_conv_ii Tryz.underlying206 Tryz.underlying2,wrap64 (by omega) (by omega)]
theorem cv32 (i:Int):(XOp.conv 2 21).run Tryz.prog [.int .i64 i]=some (.int .i32 (IntKind.i32.wrap i)):=run_conv_ii Tryz.underlying2 Tryz.underlying21 i
theorem cv32' (i:Int):(XOp.conv 21 2).run Tryz.prog [.int .i32 (IntKind.i32.wrap i)]=some (.int .i64 (IntKind.i32.wrap i)):=by
 have:=wrap32_in i
 rw [run_conv_ii Tryz.underlying21 Tryz.underlying2,wrap64 (by omega) (by omega)]
theorem p123 (k i:Int):Pure Tryz.prog 123 [.int .i64 k,.int .i64 i] (.int .i64 (wrapK k i)):=by
 refine pure_shape (sh:=[none,none]) (ls:=[.int .i64 k,.int .i64 i]) (c:=c123) (n:=300) (t:=t123) mo ov rfl rfl rfl (λY _=>known0 _) rfl (by kernel_rfl) λY hf hg=>?_
 unfold t123
 (refine it_c rfl rfl (λh=>?_) (λh=>?_)<;>simp only [Cmp,Decidable.not_not,Int.not_lt,Int.not_le]at h<;>try (exfalso;first|exact h trivial|omega))
 ·subst h
  refine VOK_lt (run_neq ..) rfl (VOK_call (p160 _) rfl rfl (VOK_done ?_))
  by_cases hi:i=0<;>simp [hi,wrapK,tI]<;>rfl
 (refine it_c rfl rfl (λh=>?_) (λh=>?_)<;>simp only [Cmp,Decidable.not_not,Int.not_lt,Int.not_le]at h<;>try (exfalso;first|exact h trivial|omega))
 ·subst h
  exact VOK_lt (cv16 i) rfl (VOK_lt (cv16' i) rfl (VOK_done rfl))
 (refine it_c rfl rfl (λh=>?_) (λh=>?_)<;>simp only [Cmp,Decidable.not_not,Int.not_lt,Int.not_le]at h<;>try (exfalso;first|exact h trivial|omega))
 ·subst h
  exact VOK_lt (cv32 i) rfl (VOK_lt (cv32' i) rfl (VOK_done rfl))
 (refine it_c rfl rfl (λh=>?_) (λh=>?_)<;>simp only [Cmp,Decidable.not_not,Int.not_lt,Int.not_le]at h<;>try (exfalso;first|exact h trivial|omega))
 ·subst h
  exact VOK_done rfl
 ·refine VOK_done ?_
  have:wrapK k i=0:=by unfold wrapK;simp only [*,if_false]
  rw [this]
  rfl
def RF (e:Int):Nat->List AV->Prop:=λj ws=>j=0/\ws=[.int .i64 e]
theorem p163 (e:Int):CF Tryz.prog 163 ft163 [.int .i64 e] (RF e):=by
 refine cf_tree (c:=c163) (n:=300) (t:=t163) mo ov rfl (λY _=>known0 _) (by kernel_rfl) λY hf hg=>?_
 unfold t163
 exact VOK_fin rfl ⟨rfl,rfl⟩
def ofV (op a b:Int):Int:=if op=4 then w64 (a+b)else if op=5 then w64 (a-b)else if op=6 then w64 (a*b)else if op=16 then w64 (0-a)else if op=7 then w64 (a.tdiv b)else a.tmod b
theorem intV_of {op k a b:Int} (h:(4<=op/\op<=8)\/op=16):intV op k a b=wrapK k (ofV op a b):=by
 rcases (by omega:op=4\/op=5\/op=6\/op=7\/op=8\/op=16)with rfl|rfl|rfl|rfl|rfl|rfl<;>rfl
def RO (op a b:Int):Nat->List AV->Prop:=λj ws=>(j=0/\intE op b=0/\ws=[.int .i64 (ofV op a b)])\/(j=1/\intE op b=5/\ws=[.int .i64 5])
theorem p179 (op a b:Int) (ho:op=7\/op=8):CF Tryz.prog 179 ft179 [.int .i64 op,.int .i64 a,.int .i64 b] (RO op a b):=by
 refine cf_tree (c:=c179) (n:=300) (t:=t179) mo ov rfl (λY _=>known0 _) (by kernel_rfl) λY hf hg=>?_
 unfold t179
 (refine it_c rfl rfl (λh=>?_) (λh=>?_)<;>simp only [Cmp,Decidable.not_not,Int.not_lt,Int.not_le]at h<;>try (exfalso;first|exact h trivial|omega))
 ·subst h
  refine VOK_callF (p163 5) rfl ⟨?_,trivial⟩
  rintro ws ⟨_,rfl⟩
  refine VOK_fin rfl (.inr ⟨rfl,?_,rfl⟩)
  unfold intE
  rw [if_pos ⟨ho,rfl⟩]
 have hb:intE op b=0:=by unfold intE;rw [if_neg (by omega)]
 (refine it_c rfl rfl (λh=>?_) (λh=>?_)<;>simp only [Cmp,Decidable.not_not,Int.not_lt,Int.not_le]at h<;>try (exfalso;first|exact h trivial|omega))
 ·subst h
  exact VOK_lt (run_remi (by omega) ..) rfl (VOK_fin rfl (.inl ⟨rfl,hb,rfl⟩))
 ·obtain rfl:op=7:=by omega
  exact VOK_lt (run_quo (by omega) ..) rfl (VOK_fin rfl (.inl ⟨rfl,hb,rfl⟩))
theorem p165 (op a b:Int) (ho:(4<=op/\op<=8)\/op=16):CF Tryz.prog 165 ft165 [.int .i64 op,.int .i64 a,.int .i64 b] (RO op a b):=by
 refine cf_tree (c:=c165) (n:=300) (t:=t165) mo ov rfl (λY _=>known0 _) (by kernel_rfl) λY hf hg=>?_
 unfold t165
 (refine it_c rfl rfl (λh=>?_) (λh=>?_)<;>simp only [Cmp,Decidable.not_not,Int.not_lt,Int.not_le]at h<;>try (exfalso;first|exact h trivial|omega))
 ·subst h;exact VOK_lt (run_add ..) rfl (VOK_fin rfl (.inl ⟨rfl,rfl,rfl⟩))
 (refine it_c rfl rfl (λh=>?_) (λh=>?_)<;>simp only [Cmp,Decidable.not_not,Int.not_lt,Int.not_le]at h<;>try (exfalso;first|exact h trivial|omega))
 ·subst h;exact VOK_lt (run_sub ..) rfl (VOK_fin rfl (.inl ⟨rfl,rfl,rfl⟩))
 (refine it_c rfl rfl (λh=>?_) (λh=>?_)<;>simp only [Cmp,Decidable.not_not,Int.not_lt,Int.not_le]at h<;>try (exfalso;first|exact h trivial|omega))
 ·subst h;exact VOK_lt (run_mul ..) rfl (VOK_fin rfl (.inl ⟨rfl,rfl,rfl⟩))
 (refine it_c rfl rfl (λh=>?_) (λh=>?_)<;>simp only [Cmp,Decidable.not_not,Int.not_lt,Int.not_le]at h<;>try (exfalso;first|exact h trivial|omega))
 ·subst h;exact VOK_lt (run_neg ..) rfl (VOK_fin rfl (.inl ⟨rfl,rfl,rfl⟩))
 (refine it_c rfl rfl (λh=>?_) (λh=>?_)<;>simp only [Cmp,Decidable.not_not,Int.not_lt,Int.not_le]at h<;>try (exfalso;first|exact h trivial|omega))
 ·subst h
  refine VOK_callF (p179 7 a b (.inl rfl)) rfl ⟨?_,?_,trivial⟩
  ·rintro ws (⟨_,h1,rfl⟩|⟨h0,_⟩)
   ·exact VOK_fin rfl (.inl ⟨rfl,h1,rfl⟩)
   ·cases h0
  ·rintro ws (⟨h0,_⟩|⟨_,h1,rfl⟩)
   ·cases h0
   ·exact VOK_fin rfl (.inr ⟨rfl,h1,rfl⟩)
 (refine it_c rfl rfl (λh=>?_) (λh=>?_)<;>simp only [Cmp,Decidable.not_not,Int.not_lt,Int.not_le]at h<;>try (exfalso;first|exact h trivial|omega))
 ·subst h
  refine VOK_callF (p179 8 a b (.inr rfl)) rfl ⟨?_,?_,trivial⟩
  ·rintro ws (⟨_,h1,rfl⟩|⟨h0,_⟩)
   ·exact VOK_fin rfl (.inl ⟨rfl,h1,rfl⟩)
   ·cases h0
  ·rintro ws (⟨h0,_⟩|⟨_,h1,rfl⟩)
   ·cases h0
   ·exact VOK_fin rfl (.inr ⟨rfl,h1,rfl⟩)
def intR (op k a b:Int):Int:=if intE op b=0 then intV op k a b else 0
theorem cmpV_intV {op k a b:Int} (h:9<=op/\op<=12):intV op k a b=tI (cmpV op a b):=by
 rcases (by omega:op=9\/op=10\/op=11\/op=12)with rfl|rfl|rfl|rfl<;>rfl
theorem intE0 {op b:Int} (h:op≠7/\op≠8):intE op b=0:=by unfold intE;rw [if_neg (by omega)]
theorem p126 (op k a b:Int) (ho:OpK op k) (hk:k≠5):Pure Tryz.prog 126 [.int .i64 op,.int .i64 k,.int .i64 a,.int .i64 b] (.tup [.int .i64 (intR op k a b),.int .i64 (intE op b)]):=by
 obtain ⟨h1,h2,h3,h4,h5,h6,h7⟩:=ho
 rcases (by omega:k=1\/k=2\/k=3\/k=4)with hk|hk|hk|hk
 ·(refine pure_pat (args':=[.sym 64,.int .i64 k,.sym 65,.sym 66]) (ls:=[.int .i64 op,.int .i64 a,.int .i64 b]) (c:=c126k1) (n:=300) (t:=t126k1) mo ov rfl rfl rfl rfl (λY _=>rfl) (λY _=>known0 _) rfl (by subst hk;kernel_rfl) λY hf hg=>?_)
  unfold t126k1
  refine VOK_call (p162 op a b) rfl rfl ?_
  (refine it_c rfl rfl (λh=>?_) (λh=>?_)<;>simp only [Cmp,Decidable.not_not,Int.not_lt,Int.not_le]at h<;>try (exfalso;first|exact h trivial|omega))
  ·subst h
   refine VOK_call (p164 13 a b (by omega)) rfl rfl (VOK_done ?_)
   rw [intR,if_pos (intE0 (by omega)),intE0 (by omega),hk]
   rfl
  (refine it_c rfl rfl (λh=>?_) (λh=>?_)<;>simp only [Cmp,Decidable.not_not,Int.not_lt,Int.not_le]at h<;>try (exfalso;first|exact h trivial|omega))
  ·subst h
   refine VOK_call (p164 14 a b (by omega)) rfl rfl (VOK_done ?_)
   rw [intR,if_pos (intE0 (by omega)),intE0 (by omega),hk]
   rfl
  (refine it_c rfl rfl (λh=>?_) (λh=>?_)<;>simp only [Cmp,Decidable.not_not,Int.not_lt,Int.not_le]at h<;>try (exfalso;first|exact h trivial|omega))
  ·subst h
   refine VOK_call (p164 15 a b (by omega)) rfl rfl (VOK_done ?_)
   rw [intR,if_pos (intE0 (by omega)),intE0 (by omega),hk]
   rfl
  (refine it_c rfl rfl (λh=>?_) (λh=>?_)<;>simp only [Cmp,Decidable.not_not,Int.not_lt,Int.not_le]at h<;>try (exfalso;first|exact h trivial|omega))
  ·(refine it_c rfl rfl (λh=>?_) (λh=>?_)<;>simp only [Cmp,Decidable.not_not,Int.not_lt,Int.not_le]at h<;>try (exfalso;first|exact h trivial|omega))
   refine it_d rfl (λh=>?_) (λh=>?_)
   ·(
     refine VOK_call (p160 _) rfl rfl (VOK_done ?_)
     rw [intR,if_pos (intE0 (by omega)),intE0 (by omega),cmpV_intV (by omega)]
     rfl)
   ·exfalso;omega
  ·refine it_d rfl (λh=>?_) (λh=>?_)
   ·(
     refine VOK_call (p160 _) rfl rfl (VOK_done ?_)
     rw [intR,if_pos (intE0 (by omega)),intE0 (by omega),cmpV_intV (by omega)]
     rfl)
   ·exfalso;omega
 all_goals have hk1:k≠1:=by omega
 ·(refine pure_pat (args':=[.sym 64,.int .i64 k,.sym 65,.sym 66]) (ls:=[.int .i64 op,.int .i64 a,.int .i64 b]) (c:=c126k2) (n:=300) (t:=t126k2) mo ov rfl rfl rfl rfl (λY _=>rfl) (λY _=>known0 _) rfl (by subst hk;kernel_rfl) λY hf hg=>?_)
  unfold t126k2
  refine VOK_call (p162 op a b) rfl rfl (it_d rfl (λh=>?_) (λh=>?_))
  ·(
    refine VOK_call (p160 _) rfl rfl (VOK_done ?_)
    rw [intR,if_pos (intE0 (by omega)),intE0 (by omega),cmpV_intV (by omega)]
    rfl)
  ·(
    refine VOK_callF (p165 op a b (by omega)) rfl ⟨?_,?_,trivial⟩
    ·rintro ws (⟨_,h1,rfl⟩|⟨h0,_⟩)
     ·refine VOK_call (p123 _ _) rfl rfl (VOK_done ?_)
      rw [intR,if_pos h1,h1,intV_of (by omega),hk]
      rfl
     ·cases h0
    ·rintro ws (⟨h0,_⟩|⟨_,h1,rfl⟩)
     ·cases h0
     ·refine VOK_done ?_
      rw [intR,if_neg (by omega),h1]
      rfl)
 ·(refine pure_pat (args':=[.sym 64,.int .i64 k,.sym 65,.sym 66]) (ls:=[.int .i64 op,.int .i64 a,.int .i64 b]) (c:=c126k3) (n:=300) (t:=t126k3) mo ov rfl rfl rfl rfl (λY _=>rfl) (λY _=>known0 _) rfl (by subst hk;kernel_rfl) λY hf hg=>?_)
  unfold t126k3
  refine VOK_call (p162 op a b) rfl rfl (it_d rfl (λh=>?_) (λh=>?_))
  ·(
    refine VOK_call (p160 _) rfl rfl (VOK_done ?_)
    rw [intR,if_pos (intE0 (by omega)),intE0 (by omega),cmpV_intV (by omega)]
    rfl)
  ·(
    refine VOK_callF (p165 op a b (by omega)) rfl ⟨?_,?_,trivial⟩
    ·rintro ws (⟨_,h1,rfl⟩|⟨h0,_⟩)
     ·refine VOK_call (p123 _ _) rfl rfl (VOK_done ?_)
      rw [intR,if_pos h1,h1,intV_of (by omega),hk]
      rfl
     ·cases h0
    ·rintro ws (⟨h0,_⟩|⟨_,h1,rfl⟩)
     ·cases h0
     ·refine VOK_done ?_
      rw [intR,if_neg (by omega),h1]
      rfl)
 ·(refine pure_pat (args':=[.sym 64,.int .i64 k,.sym 65,.sym 66]) (ls:=[.int .i64 op,.int .i64 a,.int .i64 b]) (c:=c126k4) (n:=300) (t:=t126k4) mo ov rfl rfl rfl rfl (λY _=>rfl) (λY _=>known0 _) rfl (by subst hk;kernel_rfl) λY hf hg=>?_)
  unfold t126k4
  refine VOK_call (p162 op a b) rfl rfl (it_d rfl (λh=>?_) (λh=>?_))
  ·(
    refine VOK_call (p160 _) rfl rfl (VOK_done ?_)
    rw [intR,if_pos (intE0 (by omega)),intE0 (by omega),cmpV_intV (by omega)]
    rfl)
  ·(
    refine VOK_callF (p165 op a b (by omega)) rfl ⟨?_,?_,trivial⟩
    ·rintro ws (⟨_,h1,rfl⟩|⟨h0,_⟩)
     ·refine VOK_call (p123 _ _) rfl rfl (VOK_done ?_)
      rw [intR,if_pos h1,h1,intV_of (by omega),hk]
      rfl
     ·cases h0
    ·rintro ws (⟨h0,_⟩|⟨_,h1,rfl⟩)
     ·cases h0
     ·refine VOK_done ?_
      rw [intR,if_neg (by omega),h1]
      rfl)
end Go.Proofs.YtjconanknjgpnaaGreat.vars
set_option maxRecDepth 100000
set_option linter.unusedVariables false
set_option linter.unusedSimpArgs false
namespace Go.Proofs.YtjconanknjgpnaaGreat.vars
open Go Go.Sx
def c89:VC:=⟨⟨[],[]⟩,[],[],0,true,[]⟩
def t89:VT:=
 (.ite 64
 (.done (J 1))
 (.done (J 0)))
def c90:VC:=⟨⟨[],[]⟩,[],[],0,true,[]⟩
def t90:VT:=
 (.lt (.bin .eql 3 false true) [64,J 2] 65 none
 (.ite 65
 (.done (J 16))
 (.lt (.bin .eql 3 false true) [64,J 3] 66 none
 (.ite 66
 (.done (J 32))
 (.lt (.bin .eql 3 false true) [64,J 4] 67 none
 (.ite 67
 (.done (J 64))
 (.done (J 0))))))))
def c55k1:VC:=⟨⟨[],[]⟩,[(89,[none])],[],0,true,[]⟩
def t55k1:VT:=
 (.lt (.bin .neq 2 false true) [64,J 0] 65 none
 (.call 89 [65] 66 [none]
 (.done (66))))
def c55k2:VC:=⟨⟨[],[]⟩,[(89,[none])],[],0,true,[]⟩
def t55k2:VT:=
 (.lt (.bin .rem 2 false false) [64,J 65536] 65 none
 (.lt (.bin .lss 2 false true) [65,J 0] 66 none
 (.ite 66
 (.lt (.bin .add 2 false false) [65,J 65536] 67 none
 (.lt (.bin .geq 2 false false) [67,J 32768] 68 none
 (.ite 68
 (.lt (.bin .sub 2 false false) [67,J 65536] 69 none
 (.done (69)))
 (.done (67)))))
 (.lt (.bin .geq 2 false false) [65,J 32768] 67 none
 (.ite 67
 (.lt (.bin .sub 2 false false) [65,J 65536] 68 none
 (.done (68)))
 (.done (65)))))))
def c55k3:VC:=⟨⟨[],[]⟩,[(89,[none])],[],0,true,[]⟩
def t55k3:VT:=
 (.lt (.bin .rem 2 false false) [64,J 4294967296] 65 none
 (.lt (.bin .lss 2 false true) [65,J 0] 66 none
 (.ite 66
 (.lt (.bin .add 2 false false) [65,J 4294967296] 67 none
 (.lt (.bin .geq 2 false false) [67,J 2147483648] 68 none
 (.ite 68
 (.lt (.bin .sub 2 false false) [67,J 4294967296] 69 none
 (.done (69)))
 (.done (67)))))
 (.lt (.bin .geq 2 false false) [65,J 2147483648] 67 none
 (.ite 67
 (.lt (.bin .sub 2 false false) [65,J 4294967296] 68 none
 (.done (68)))
 (.done (65)))))))
def c55k4:VC:=⟨⟨[],[]⟩,[(89,[none])],[],0,true,[]⟩
def t55k4:VT:=
 (.done (64))
def c55k5:VC:=⟨⟨[],[]⟩,[(89,[none])],[],0,true,[]⟩
def t55k5:VT:=
 (.done (J 0))
def c87:VC:=⟨⟨[],[]⟩,[(55,[none]),(89,[none]),(90,[none])],[],0,true,[]⟩
def t87:VT:=
 (.lt (.bin .eql 3 false true) [65,J 1] 68 none
 (.ite 68
 (.lt (.bin .eql 3 false true) [64,J 13] 69 none
 (.ite 69
 (.lt (.bin .neq 2 false true) [66,J 0] 70 none
 (.ite 70
 (.lt (.bin .neq 2 false true) [67,J 0] 71 none
 (.call 89 [71] 72 [none]
 (.done (.tup [72,J 0]))))
 (.call 89 [.bool false] 71 [none]
 (.done (.tup [71,J 0])))))
 (.lt (.bin .eql 3 false true) [64,J 14] 70 none
 (.ite 70
 (.lt (.bin .neq 2 false true) [66,J 0] 71 none
 (.ite 71
 (.call 89 [.bool true] 72 [none]
 (.done (.tup [72,J 0])))
 (.lt (.bin .neq 2 false true) [67,J 0] 72 none
 (.call 89 [72] 73 [none]
 (.done (.tup [73,J 0]))))))
 (.lt (.bin .eql 3 false true) [64,J 15] 71 none
 (.ite 71
 (.lt (.bin .eql 2 false true) [66,J 0] 72 none
 (.call 89 [72] 73 [none]
 (.done (.tup [73,J 0]))))
 (.lt (.bin .eql 3 false true) [64,J 9] 72 none
 (.ite 72
 (.lt (.bin .eql 2 false false) [66,67] 73 none
 (.call 89 [73] 74 [none]
 (.done (.tup [74,J 0]))))
 (.lt (.bin .eql 3 false true) [64,J 10] 73 none
 (.ite 73
 (.lt (.bin .neq 2 false false) [66,67] 74 none
 (.call 89 [74] 75 [none]
 (.done (.tup [75,J 0]))))
 (.done (.tup [J 0,J 4]))))))))))))
 (.call 90 [65] 69 [none]
 (.lt (.bin .eql 3 false true) [69,J 0] 70 none
 (.ite 70
 (.done (.tup [J 0,J 4]))
 (.lt (.bin .eql 3 false true) [64,J 4] 71 none
 (.ite 71
 (.lt (.bin .add 2 false false) [66,67] 72 none
 (.call 55 [65,72] 73 [none]
 (.done (.tup [73,J 0]))))
 (.lt (.bin .eql 3 false true) [64,J 5] 72 none
 (.ite 72
 (.lt (.bin .sub 2 false false) [66,67] 73 none
 (.call 55 [65,73] 74 [none]
 (.done (.tup [74,J 0]))))
 (.lt (.bin .eql 3 false true) [64,J 6] 73 none
 (.ite 73
 (.lt (.bin .mul 2 false false) [66,67] 74 none
 (.call 55 [65,74] 75 [none]
 (.done (.tup [75,J 0]))))
 (.lt (.bin .eql 3 false true) [64,J 16] 74 none
 (.ite 74
 (.lt (.un .neg) [66] 75 none
 (.call 55 [65,75] 76 [none]
 (.done (.tup [76,J 0]))))
 (.lt (.bin .eql 3 false true) [64,J 7] 75 none
 (.ite 75
 (.lt (.bin .eql 2 false true) [67,J 0] 76 none
 (.ite 76
 (.done (.tup [J 0,J 5]))
 (.lt (.bin .eql 2 false true) [67,.int .i64 (-1)] 77 none
 (.ite 77
 (.lt (.bin .eql 3 false true) [64,J 8] 78 none
 (.ite 78
 (.done (.tup [J 0,J 0]))
 (.lt (.un .neg) [66] 79 none
 (.call 55 [65,79] 80 [none]
 (.done (.tup [80,J 0]))))))
 (.lt (.bin .eql 3 false true) [64,J 8] 78 none
 (.ite 78
 (.lt (.bin .rem 2 false false) [66,67] 79 none
 (.done (.tup [79,J 0])))
 (.lt (.bin .quo 2 false false) [66,67] 79 none
 (.done (.tup [79,J 0])))))))))
 (.lt (.bin .eql 3 false true) [64,J 8] 76 none
 (.ite 76
 (.lt (.bin .eql 2 false true) [67,J 0] 77 none
 (.ite 77
 (.done (.tup [J 0,J 5]))
 (.lt (.bin .eql 2 false true) [67,.int .i64 (-1)] 78 none
 (.ite 78
 (.lt (.bin .eql 3 false true) [64,J 8] 79 none
 (.ite 79
 (.done (.tup [J 0,J 0]))
 (.lt (.un .neg) [66] 80 none
 (.call 55 [65,80] 81 [none]
 (.done (.tup [81,J 0]))))))
 (.lt (.bin .eql 3 false true) [64,J 8] 79 none
 (.ite 79
 (.lt (.bin .rem 2 false false) [66,67] 80 none
 (.done (.tup [80,J 0])))
 (.lt (.bin .quo 2 false false) [66,67] 80 none
 (.done (.tup [80,J 0])))))))))
 (.lt (.bin .eql 3 false true) [64,J 9] 77 none
 (.ite 77
 (.lt (.bin .eql 2 false false) [66,67] 78 none
 (.call 89 [78] 79 [none]
 (.done (.tup [79,J 0]))))
 (.lt (.bin .eql 3 false true) [64,J 10] 78 none
 (.ite 78
 (.lt (.bin .neq 2 false false) [66,67] 79 none
 (.call 89 [79] 80 [none]
 (.done (.tup [80,J 0]))))
 (.lt (.bin .eql 3 false true) [64,J 11] 79 none
 (.ite 79
 (.lt (.bin .lss 2 false false) [66,67] 80 none
 (.call 89 [80] 81 [none]
 (.done (.tup [81,J 0]))))
 (.lt (.bin .eql 3 false true) [64,J 12] 80 none
 (.ite 80
 (.lt (.bin .leq 2 false false) [66,67] 81 none
 (.call 89 [81] 82 [none]
 (.done (.tup [82,J 0]))))
 (.done (.tup [J 0,J 4])))))))))))))))))))))))))))
theorem p89 (b:Bool):Pure Tryz.prog 89 [.bool b] (.int .i64 (tI b)):=by
 refine pure_shape (sh:=[none]) (ls:=[.bool b]) (c:=c89) (n:=300) (t:=t89) mo ov rfl rfl rfl (λY _=>known0 _) rfl (by kernel_rfl) λY hf hg=>?_
 unfold t89
 cases b
 ·exact VOK_ite (t:=false) rfl (λh=>by cases h) (λh=>VOK_done rfl)
 ·exact VOK_ite (t:=true) rfl (λh=>VOK_done rfl) (λh=>by cases h)
def bitsK (k:Int):Int:=if k=2 then 16 else if k=3 then 32 else if k=4 then 64 else 0
theorem p90 (k:Int):Pure Tryz.prog 90 [.int .i64 k] (.int .i64 (bitsK k)):=by
 refine pure_shape (sh:=[none]) (ls:=[.int .i64 k]) (c:=c90) (n:=300) (t:=t90) mo ov rfl rfl rfl (λY _=>known0 _) rfl (by kernel_rfl) λY hf hg=>?_
 unfold t90
 (refine it_c rfl rfl (λh=>?_) (λh=>?_)<;>simp only [Cmp,Decidable.not_not,Int.not_lt,Int.not_le]at h<;>try (exfalso;first|exact h trivial|omega))
 ·subst h;exact VOK_done rfl
 (refine it_c rfl rfl (λh=>?_) (λh=>?_)<;>simp only [Cmp,Decidable.not_not,Int.not_lt,Int.not_le]at h<;>try (exfalso;first|exact h trivial|omega))
 ·subst h;exact VOK_done rfl
 (refine it_c rfl rfl (λh=>?_) (λh=>?_)<;>simp only [Cmp,Decidable.not_not,Int.not_lt,Int.not_le]at h<;>try (exfalso;first|exact h trivial|omega))
 ·subst h;exact VOK_done rfl
 refine VOK_done ?_
 have:bitsK k=0:=by unfold bitsK;simp only [*,if_false]
 rw [this];rfl
def wrapR (n x:Int):Int:=if x.tmod n<0 then (if n/2<=x.tmod n+n then x.tmod n+n-n else x.tmod n+n)else (if n/2<=x.tmod n then x.tmod n-n else x.tmod n)
theorem tmod_lt (x n:Int) (hn:0<n): -n<x.tmod n/\x.tmod n<n:=by
 refine ⟨?_,Int.tmod_lt_of_pos x hn⟩
 have:=Int.tmod_lt_of_pos (-x) hn
 rw [Int.neg_tmod]at this
 omega
theorem tmod_em (x n:Int) (hn:0<n):x.tmod n=x%n\/(x.tmod n=x%n-n/\x%n≠0):=by
 rw [Int.tmod_eq_emod]
 split
 ·left;omega
 ·rename_i h
  right
  have h2:¬n ∣ x:=λhd=>h (.inr hd)
  have:x%n≠0:=λe=>h2 (Int.dvd_of_emod_eq_zero e)
  omega
theorem wrapR16 (x:Int):wrapR 65536 x=IntKind.i16.wrap x:=by
 have h:=tmod_em x 65536 (by omega)
 have hb:=tmod_lt x 65536 (by omega)
 simp only [IntKind.wrap,IntKind.bits,IntKind.signed,wrapR]
 simp
 generalize x.tmod 65536=r at*
 omega
theorem wrapR32 (x:Int):wrapR 4294967296 x=IntKind.i32.wrap x:=by
 have h:=tmod_em x 4294967296 (by omega)
 have hb:=tmod_lt x 4294967296 (by omega)
 simp only [IntKind.wrap,IntKind.bits,IntKind.signed,wrapR]
 simp
 generalize x.tmod 4294967296=r at*
 omega
theorem p55k1 (x:Int):Pure Tryz.prog 55 [.int .i64 1,.int .i64 x] (.int .i64 (wrapK 1 x)):=by
 refine pure_pat (args':=[.int .i64 1,.sym 64]) (ls:=[.int .i64 x]) (c:=c55k1) (n:=300) (t:=t55k1) mo ov rfl rfl rfl rfl (λY _=>rfl) (λY _=>known0 _) rfl (by kernel_rfl) λY hf hg=>?_
 unfold t55k1
 refine VOK_lt (run_neq ..) rfl (VOK_call (p89 _) rfl rfl (VOK_done ?_))
 by_cases hi:x=0<;>simp [hi,wrapK,tI]<;>rfl
theorem p55k4 (x:Int):Pure Tryz.prog 55 [.int .i64 4,.int .i64 x] (.int .i64 x):=by
 refine pure_pat (args':=[.int .i64 4,.sym 64]) (ls:=[.int .i64 x]) (c:=c55k4) (n:=300) (t:=t55k4) mo ov rfl rfl rfl rfl (λY _=>rfl) (λY _=>known0 _) rfl (by kernel_rfl) λY hf hg=>?_
 unfold t55k4
 exact VOK_done rfl
theorem p55k5 (x:Int):Pure Tryz.prog 55 [.int .i64 5,.int .i64 x] (.int .i64 0):=by
 refine pure_pat (args':=[.int .i64 5,.sym 64]) (ls:=[.int .i64 x]) (c:=c55k5) (n:=300) (t:=t55k5) mo ov rfl rfl rfl rfl (λY _=>rfl) (λY _=>known0 _) rfl (by kernel_rfl) λY hf hg=>?_
 unfold t55k5
 exact VOK_done rfl
theorem p55k2 (x:Int):Pure Tryz.prog 55 [.int .i64 2,.int .i64 x] (.int .i64 (wrapR 65536 x)):=by
 have hb:=tmod_lt x 65536 (by omega)
 refine pure_pat (args':=[.int .i64 2,.sym 64]) (ls:=[.int .i64 x]) (c:=c55k2) (n:=300) (t:=t55k2) mo ov rfl rfl rfl rfl (λY _=>rfl) (λY _=>known0 _) rfl (by kernel_rfl) λY hf hg=>?_
 unfold t55k2
 have hr:=run_remi (P:=Tryz.prog) (k:=.i64) (x:=x) (c:=65536) (by omega) 2 false false
 unfold wrapR
 generalize x.tmod 65536=r at*
 refine VOK_lt hr rfl ?_
 repeat' (first
  |refine VOK_lt (run_lss ..) rfl ?_
  |refine VOK_lt (run_geq ..) rfl ?_
  |refine VOK_lt (run_add ..) rfl ?_
  |refine VOK_lt (run_sub ..) rfl ?_
  |refine VOK_ite rfl (λh=>?_) (λh=>?_)
  |refine VOK_done ?_)
 all_goals (simp only [decide_eq_true_eq,decide_eq_false_iff_not]at *)
 all_goals (try rw [wrap64 (x:=r+65536) (by omega) (by omega)]at *)
 all_goals
  (show AV.int .i64 _=AV.int .i64 _
   congr 1
   repeat' split
   all_goals first
    |(exfalso;omega)
    |rfl
    |(rw [wrap64 (x:=r+65536-65536) (by omega) (by omega)])
    |(rw [wrap64 (x:=r-65536) (by omega) (by omega)])
    |omega)
theorem p55k3 (x:Int):Pure Tryz.prog 55 [.int .i64 3,.int .i64 x] (.int .i64 (wrapR 4294967296 x)):=by
 have hb:=tmod_lt x 4294967296 (by omega)
 refine pure_pat (args':=[.int .i64 3,.sym 64]) (ls:=[.int .i64 x]) (c:=c55k3) (n:=300) (t:=t55k3) mo ov rfl rfl rfl rfl (λY _=>rfl) (λY _=>known0 _) rfl (by kernel_rfl) λY hf hg=>?_
 unfold t55k3
 have hr:=run_remi (P:=Tryz.prog) (k:=.i64) (x:=x) (c:=4294967296) (by omega) 2 false false
 unfold wrapR
 generalize x.tmod 4294967296=r at*
 refine VOK_lt hr rfl ?_
 repeat' (first
  |refine VOK_lt (run_lss ..) rfl ?_
  |refine VOK_lt (run_geq ..) rfl ?_
  |refine VOK_lt (run_add ..) rfl ?_
  |refine VOK_lt (run_sub ..) rfl ?_
  |refine VOK_ite rfl (λh=>?_) (λh=>?_)
  |refine VOK_done ?_)
 all_goals (simp only [decide_eq_true_eq,decide_eq_false_iff_not]at *)
 all_goals (try rw [wrap64 (x:=r+4294967296) (by omega) (by omega)]at *)
 all_goals
  (show AV.int .i64 _=AV.int .i64 _
   congr 1
   repeat' split
   all_goals first
    |(exfalso;omega)
    |rfl
    |(rw [wrap64 (x:=r+4294967296-4294967296) (by omega) (by omega)])
    |(rw [wrap64 (x:=r-4294967296) (by omega) (by omega)])
    |omega)
theorem p55 {k:Int} (h:1<=k/\k<=5) (x:Int):Pure Tryz.prog 55 [.int .i64 k,.int .i64 x] (.int .i64 (wrapK k x)):=by
 rcases (by omega:k=1\/k=2\/k=3\/k=4\/k=5)with rfl|rfl|rfl|rfl|rfl
 ·exact p55k1 x
 ·have:=p55k2 x;rw [wrapR16]at this;exact this
 ·have:=p55k3 x;rw [wrapR32]at this;exact this
 ·exact p55k4 x
 ·exact p55k5 x
theorem p87 (op k a b:Int) (ho:OpK op k) (hk:k≠5) (ha:InK k a):Pure Tryz.prog 87 [.int .i64 op,.int .i64 k,.int .i64 a,.int .i64 b] (.tup [.int .i64 (intR op k a b),.int .i64 (intE op b)]):=by
 obtain ⟨h1,h2,h3,h4,h5,h6,h7⟩:=ho
 have hkk:1<=k/\k<=5:=⟨h3,h4⟩
 refine pure_shape (sh:=[none,none,none,none]) (ls:=[.int .i64 op,.int .i64 k,.int .i64 a,.int .i64 b]) (c:=c87) (n:=300) (t:=t87) mo ov rfl rfl rfl (λY _=>known0 _) rfl (by kernel_rfl) λY hf hg=>?_
 unfold t87
 have fin0:∀{v:Int},(op≠7/\op≠8)->intV op k a b=v->AV.tup [.int .i64 v,.int .i64 0]=.tup [.int .i64 (intR op k a b),.int .i64 (intE op b)]:=λh e=>by
  rw [intR,if_pos (intE0 h),intE0 h,e]
 have fin1:∀{v:Int},b≠0->intV op k a b=v->AV.tup [.int .i64 v,.int .i64 0]=.tup [.int .i64 (intR op k a b),.int .i64 (intE op b)]:=λh e=>by
  have h0:intE op b=0:=by unfold intE;rw [if_neg (λhh=>h hh.2)]
  rw [intR,if_pos h0,h0,e]
 have fin5:(op=7\/op=8)->b=0->AV.tup [.int .i64 0,.int .i64 5]=.tup [.int .i64 (intR op k a b),.int .i64 (intE op b)]:=λh e=>by
  have h0:intE op b=5:=by unfold intE;rw [if_pos ⟨h,e⟩]
  rw [intR,h0,if_neg (by omega)]
 have h8:k≠1->op=8->intV op k a b=a.tmod b:=λhk1 e=>by
  have:=tmod_in (b:=b) ha hk hk1
  rw [intV_of (by omega),e]
  show wrapK k (a.tmod b)=_
  rw [wrapK_id this hk]
 have h7':k≠1->op=7->b≠ -1->intV op k a b=w64 (a.tdiv b):=λhk1 e hb=>by
  have h:=tdiv_in (b:=b) ha hk hk1 hb
  have e64:w64 (a.tdiv b)=a.tdiv b:=wrap64 h.i64.1 h.i64.2
  rw [intV_of (by omega),e]
  show wrapK k (w64 (a.tdiv b))=_
  rw [e64,wrapK_id h hk]
 (refine it_c rfl rfl (λh=>?_) (λh=>?_)<;>simp only [Cmp,Decidable.not_not,Int.not_lt,Int.not_le]at h<;>try (exfalso;first|exact h trivial|omega))
 ·(refine it_c rfl rfl (λh=>?_) (λh=>?_)<;>simp only [Cmp,Decidable.not_not,Int.not_lt,Int.not_le]at h<;>try (exfalso;first|exact h trivial|omega))
  ·have e:intV op k a b=tI (decide (¬a=0)&&decide (¬b=0)):=by subst op;rfl
   (refine it_c rfl rfl (λh=>?_) (λh=>?_)<;>simp only [Cmp,Decidable.not_not,Int.not_lt,Int.not_le]at h<;>try (exfalso;first|exact h trivial|omega))
   ·refine VOK_lt (run_neq ..) rfl (VOK_call (p89 _) rfl rfl (VOK_done (fin0 (by omega) ?_)))
    rw [e,decide_eq_true (by omega),Bool.true_and]
    by_cases hb:b=0<;>simp [hb]
   ·refine VOK_call (p89 false) rfl rfl (VOK_done (fin0 (by omega) ?_))
    rw [e,decide_eq_false (by omega),Bool.false_and]
  (refine it_c rfl rfl (λh=>?_) (λh=>?_)<;>simp only [Cmp,Decidable.not_not,Int.not_lt,Int.not_le]at h<;>try (exfalso;first|exact h trivial|omega))
  ·have e:intV op k a b=tI (decide (¬a=0)||decide (¬b=0)):=by subst op;rfl
   (refine it_c rfl rfl (λh=>?_) (λh=>?_)<;>simp only [Cmp,Decidable.not_not,Int.not_lt,Int.not_le]at h<;>try (exfalso;first|exact h trivial|omega))
   ·refine VOK_call (p89 true) rfl rfl (VOK_done (fin0 (by omega) ?_))
    rw [e,decide_eq_true (by omega),Bool.true_or]
   ·refine VOK_lt (run_neq ..) rfl (VOK_call (p89 _) rfl rfl (VOK_done (fin0 (by omega) ?_)))
    rw [e,decide_eq_false (p:=¬a=0) (by omega),Bool.false_or]
    by_cases hb:b=0<;>simp [hb]
  (refine it_c rfl rfl (λh=>?_) (λh=>?_)<;>simp only [Cmp,Decidable.not_not,Int.not_lt,Int.not_le]at h<;>try (exfalso;first|exact h trivial|omega))
  ·have e:intV op k a b=tI (decide (a=0)):=by subst op;rfl
   exact VOK_lt (run_eql ..) rfl (VOK_call (p89 _) rfl rfl (VOK_done (fin0 (by omega) e)))
  (refine it_c rfl rfl (λh=>?_) (λh=>?_)<;>simp only [Cmp,Decidable.not_not,Int.not_lt,Int.not_le]at h<;>try (exfalso;first|exact h trivial|omega))
  ·have e:intV op k a b=tI (decide (a=b)):=by subst op;rfl
   exact VOK_lt (run_eql ..) rfl (VOK_call (p89 _) rfl rfl (VOK_done (fin0 (by omega) e)))
  (refine it_c rfl rfl (λh=>?_) (λh=>?_)<;>simp only [Cmp,Decidable.not_not,Int.not_lt,Int.not_le]at h<;>try (exfalso;first|exact h trivial|omega))
  have e:intV op k a b=tI (decide (¬a=b)):=by subst op;rfl
  refine VOK_lt (run_neq ..) rfl (VOK_call (p89 _) rfl rfl (VOK_done (fin0 (by omega) ?_)))
  rw [e]
  by_cases hb:a=b<;>simp [hb]
 have hk1:k≠1:=h
 have hb:bitsK k≠0:=by unfold bitsK;split<;>(try split)<;>(try split)<;>omega
 refine VOK_call (p90 k) rfl rfl ?_
 (refine it_c rfl rfl (λh=>?_) (λh=>?_)<;>simp only [Cmp,Decidable.not_not,Int.not_lt,Int.not_le]at h<;>try (exfalso;first|exact h trivial|omega))
 (refine it_c rfl rfl (λh=>?_) (λh=>?_)<;>simp only [Cmp,Decidable.not_not,Int.not_lt,Int.not_le]at h<;>try (exfalso;first|exact h trivial|omega))
 ·exact VOK_lt (run_add ..) rfl (VOK_call (p55 hkk _) rfl rfl (VOK_done (fin0 (by omega) (by subst op;rfl))))
 (refine it_c rfl rfl (λh=>?_) (λh=>?_)<;>simp only [Cmp,Decidable.not_not,Int.not_lt,Int.not_le]at h<;>try (exfalso;first|exact h trivial|omega))
 ·exact VOK_lt (run_sub ..) rfl (VOK_call (p55 hkk _) rfl rfl (VOK_done (fin0 (by omega) (by subst op;rfl))))
 (refine it_c rfl rfl (λh=>?_) (λh=>?_)<;>simp only [Cmp,Decidable.not_not,Int.not_lt,Int.not_le]at h<;>try (exfalso;first|exact h trivial|omega))
 ·exact VOK_lt (run_mul ..) rfl (VOK_call (p55 hkk _) rfl rfl (VOK_done (fin0 (by omega) (by subst op;rfl))))
 (refine it_c rfl rfl (λh=>?_) (λh=>?_)<;>simp only [Cmp,Decidable.not_not,Int.not_lt,Int.not_le]at h<;>try (exfalso;first|exact h trivial|omega))
 ·exact VOK_lt (run_neg ..) rfl (VOK_call (p55 hkk _) rfl rfl (VOK_done (fin0 (by omega) (by subst op;rfl))))
 (refine it_c rfl rfl (λh=>?_) (λh=>?_)<;>simp only [Cmp,Decidable.not_not,Int.not_lt,Int.not_le]at h<;>try (exfalso;first|exact h trivial|omega))
 ·have h7'':=h
  (refine it_c rfl rfl (λh=>?_) (λh=>?_)<;>simp only [Cmp,Decidable.not_not,Int.not_lt,Int.not_le]at h<;>try (exfalso;first|exact h trivial|omega))
  ·exact VOK_done (fin5 (by omega) h)
  have hb0:=h
  (refine it_c rfl rfl (λh=>?_) (λh=>?_)<;>simp only [Cmp,Decidable.not_not,Int.not_lt,Int.not_le]at h<;>try (exfalso;first|exact h trivial|omega))
  ·have hbm:=h
   (refine it_c rfl rfl (λh=>?_) (λh=>?_)<;>simp only [Cmp,Decidable.not_not,Int.not_lt,Int.not_le]at h<;>try (exfalso;first|exact h trivial|omega))
   refine VOK_lt (run_neg ..) rfl (VOK_call (p55 hkk _) rfl rfl (VOK_done (fin1 hb0 ?_)))
   rw [intV_of (by omega),h7'',hbm]
   show wrapK k (w64 (a.tdiv (-1)))=wrapK k (IntKind.i64.wrap (0-a))
   rw [tdiv_m1,Int.zero_sub]
   rfl
  have hbm:=h
  (refine it_c rfl rfl (λh=>?_) (λh=>?_)<;>simp only [Cmp,Decidable.not_not,Int.not_lt,Int.not_le]at h<;>try (exfalso;first|exact h trivial|omega))
  exact VOK_lt (run_quo hb0 ..) rfl (VOK_done (fin1 hb0 (h7' hk1 h7'' hbm)))
 (refine it_c rfl rfl (λh=>?_) (λh=>?_)<;>simp only [Cmp,Decidable.not_not,Int.not_lt,Int.not_le]at h<;>try (exfalso;first|exact h trivial|omega))
 ·have h8':=h
  (refine it_c rfl rfl (λh=>?_) (λh=>?_)<;>simp only [Cmp,Decidable.not_not,Int.not_lt,Int.not_le]at h<;>try (exfalso;first|exact h trivial|omega))
  ·exact VOK_done (fin5 (by omega) h)
  have hb0:=h
  (refine it_c rfl rfl (λh=>?_) (λh=>?_)<;>simp only [Cmp,Decidable.not_not,Int.not_lt,Int.not_le]at h<;>try (exfalso;first|exact h trivial|omega))
  ·have hbm:=h
   (refine it_c rfl rfl (λh=>?_) (λh=>?_)<;>simp only [Cmp,Decidable.not_not,Int.not_lt,Int.not_le]at h<;>try (exfalso;first|exact h trivial|omega))
   refine VOK_done (fin1 hb0 ?_)
   rw [h8 hk1 h8',hbm,tmod_m1]
  have hbm:=h
  (refine it_c rfl rfl (λh=>?_) (λh=>?_)<;>simp only [Cmp,Decidable.not_not,Int.not_lt,Int.not_le]at h<;>try (exfalso;first|exact h trivial|omega))
  exact VOK_lt (run_remi hb0 ..) rfl (VOK_done (fin1 hb0 (h8 hk1 h8')))
 (refine it_c rfl rfl (λh=>?_) (λh=>?_)<;>simp only [Cmp,Decidable.not_not,Int.not_lt,Int.not_le]at h<;>try (exfalso;first|exact h trivial|omega))
 ·have e:intV op k a b=tI (decide (a=b)):=by subst op;rfl
  exact VOK_lt (run_eql ..) rfl (VOK_call (p89 _) rfl rfl (VOK_done (fin0 (by omega) e)))
 (refine it_c rfl rfl (λh=>?_) (λh=>?_)<;>simp only [Cmp,Decidable.not_not,Int.not_lt,Int.not_le]at h<;>try (exfalso;first|exact h trivial|omega))
 ·have e:intV op k a b=tI (decide (¬a=b)):=by subst op;rfl
  refine VOK_lt (run_neq ..) rfl (VOK_call (p89 _) rfl rfl (VOK_done (fin0 (by omega) ?_)))
  rw [e]
  by_cases hb:a=b<;>simp [hb]
 (refine it_c rfl rfl (λh=>?_) (λh=>?_)<;>simp only [Cmp,Decidable.not_not,Int.not_lt,Int.not_le]at h<;>try (exfalso;first|exact h trivial|omega))
 ·have e:intV op k a b=tI (decide (a<b)):=by subst op;rfl
  exact VOK_lt (run_lss ..) rfl (VOK_call (p89 _) rfl rfl (VOK_done (fin0 (by omega) e)))
 (refine it_c rfl rfl (λh=>?_) (λh=>?_)<;>simp only [Cmp,Decidable.not_not,Int.not_lt,Int.not_le]at h<;>try (exfalso;first|exact h trivial|omega))
 have e:intV op k a b=tI (decide (a<=b)):=by subst op;rfl
 exact VOK_lt (run_leq ..) rfl (VOK_call (p89 _) rfl rfl (VOK_done (fin0 (by omega) e)))
end Go.Proofs.YtjconanknjgpnaaGreat.vars
set_option maxRecDepth 100000
set_option linter.unusedVariables false
set_option linter.unusedSimpArgs false
namespace Go.Proofs.YtjconanknjgpnaaGreat.vars
open Go.Sx Go
theorem quiet_nan (s:Bool) (t:Nat):((FloatKind.f64.format).read (FloatKind.f64.encode (.nan s (FloatKind.f64.format.quiet t)))).isNaN=true:=by
 refine read_nan ?_ (by decide +kernel)
 have h51:(Ieee.Format.quiet Ieee.double t%Ieee.double.binade).testBit 51=true:=by
  have hb:Ieee.double.binade=2^52:=by decide +kernel
  rw [hb,Nat.testBit_mod_two_pow]
  show (decide (51<52)&&(t|||2^(Ieee.double.fractionBits-1)).testBit 51)=true
  have hf:Ieee.double.fractionBits-1=51:=by decide +kernel
  rw [hf,Nat.testBit_or,Nat.testBit_two_pow_self]
  simp
 have hpos:0<Ieee.Format.quiet Ieee.double t%Ieee.double.binade:=by
  rcases Nat.eq_zero_or_pos (Ieee.Format.quiet Ieee.double t%Ieee.double.binade)with h|h
  ·rw [h]at h51;simp at h51
  ·exact h
 have hlt:Ieee.Format.quiet Ieee.double t%Ieee.double.binade<Ieee.double.binade:=Nat.mod_lt _ (by decide +kernel)
 show Ieee.double.infRung<(Ieee.double.word s (Ieee.double.infRung+Ieee.Format.quiet Ieee.double t%Ieee.double.binade))%Ieee.double.signWeight
 generalize Ieee.Format.quiet Ieee.double t%Ieee.double.binade=q at*
 have e1:Ieee.double.infRung=9218868437227405312:=by decide +kernel
 have e2:Ieee.double.signWeight=9223372036854775808:=by decide +kernel
 have e3:Ieee.double.binade=4503599627370496:=by decide +kernel
 unfold Ieee.Format.word
 rw [e1,e2]
 rw [e3]at hlt
 cases s<;>simp<;>omega
theorem trunc_eq (b:Nat):∃q:Question,Extern.MathFloor.toIntegral "math.archTrunc" .zero #[.float .f64 b]=(match FloatKind.f64.format.read b with
 | .nan s t=>if FloatKind.f64.format.quiet t=t then pure (.float .f64 b)else do
    let kept←choose q
    pure (.float .f64 (if kept==1 then b else FloatKind.f64.encode (.nan s (FloatKind.f64.format.quiet t))))
 |d=>pure (.float .f64 (FloatKind.f64.encode (d.integral .zero)))):=⟨_,rfl⟩
def TrOk (b b':Nat):Prop:=(nanB b=true->((FloatKind.f64.format).read b').isNaN=true)/\(nanB b=false->b'=truncB b)
theorem trunc_run {P:Program} (b:Nat) (w:World):
  ∃b' n,(Extern.MathFloor.toIntegral "math.archTrunc" .zero #[.float .f64 b]).run P w=.ok (.float .f64 b') { w with drawn:=n }/\TrOk b b':=by
 obtain ⟨q,e⟩:=trunc_eq b
 rw [e]
 have hn:(FloatKind.f64.format.read b).isNaN=nanB b:=nan_isNaN
 cases hd:FloatKind.f64.format.read b with
 |number s m i=>
  rw [hd]at hn
  refine ⟨truncB b,w.drawn,?_,λh=>(Bool.false_ne_true (hn.trans h)).elim,λ_=>rfl⟩
  unfold truncB
  rw [show Ieee.double.read b=_ from hd]
  rfl
 |infinity s=>
  rw [hd]at hn
  refine ⟨truncB b,w.drawn,?_,λh=>(Bool.false_ne_true (hn.trans h)).elim,λ_=>rfl⟩
  unfold truncB
  rw [show Ieee.double.read b=_ from hd]
  rfl
 |nan s t=>
  rw [hd]at hn
  have hf:nanB b≠false:=λh=>by rw [←hn]at h;cases h
  simp only
  split
  ·exact ⟨b,w.drawn,rfl,λ_=>by rw [hd];rfl,λh=>absurd h hf⟩
  ·simp only [Sem.run_bind,choose,Sem.run,Result.andThen]
   by_cases hq:q.forced=true
   ·rw [if_pos hq]
    exact ⟨_,w.drawn,rfl,λ_=>quiet_nan s t,λh=>absurd h hf⟩
   ·rw [if_neg hq]
    refine ⟨_,_,rfl,λ_=>?_,λh=>absurd h hf⟩
    split
    ·rw [hd];rfl
    ·exact quiet_nan s t
theorem trunc_call (b:Nat) (w:World):
  Calls Tryz.prog 127 #[.float .f64 b] w λe w'=>∃b' n,e=.returned (.float .f64 b')/\w'={ w with drawn:=n }/\TrOk b b':=by
 obtain ⟨b',n,h1,h2⟩:=trunc_run (P:=Tryz.prog) b w
 have h3:(callFunc 166 #[.float .f64 b]).run Tryz.prog w=.ok (.value (.float .f64 b')) { w with drawn:=n }:=by
  rw [run_callFunc_extern (P:=Tryz.prog) (f:=166) (e:=Extern.MathFloor.toIntegral "math.archTrunc" .zero) Tryz.func166 (by kernel_rfl) (by kernel_rfl) (by kernel_rfl) (by kernel_rfl),h1]
  rfl
 have H2:=Lib.hid h2
 clear h2 h1
 generalize hw1:({ w with drawn:=n }:World)=w1 at*
 have H3:=Lib.hid hw1
 clear hw1
 go_enter Tryz.func127,Tryz.ntmps127
 go_wp2
 go_ret
 exact ⟨b',n,rfl,H3.out.symm,H2.out⟩
theorem p127 (o:Option Nat):Pure Tryz.prog 127 [fv o] (fv (truncF o)):=by
 intro H B pr E w vs hg hr hc
 have key:∃b,vs=[.float .f64 b]/\(nanB b=nanF o)/\(nanF o=false->o=some b):=by
  cases o with
  |none=>
   simp only [fv,mkF,ConL,Con]at hc
   obtain ⟨v,r,rfl,⟨b,rfl,hb⟩,rfl⟩:=hc
   exact ⟨b,rfl,by rw [←nan_isNaN];exact hb,λh=>by cases h⟩
  |some b=>
   simp only [fv,mkF,ConL,Con]at hc
   obtain ⟨v,r,rfl,rfl,rfl⟩:=hc
   exact ⟨b,rfl,rfl,λ_=>rfl⟩
 obtain ⟨b,rfl,hn,ho⟩:=key
 refine (trunc_call b w).mono λe w' he=>?_
 obtain ⟨b',n,rfl,rfl,h1,h2⟩:=he
 refine ⟨E,Env.le_refl E,_,rfl,?_,hr.drawn n⟩
 cases hb:nanF o with
 |true=>
  have e:truncF o=none:=by
   cases o with
   |none=>rfl
   |some x=>show (if nanB x=true then none else some (truncB x))=none;exact if_pos hb
  rw [e]
  simp only [fv,mkF,Con]
  exact ⟨b',rfl,h1 (hn.trans hb)⟩
 |false=>
  rw [ho hb]
  have hb':nanB b=false:=hn.trans hb
  have e:truncF (some b)=some (truncB b):=by
   show (if nanB b=true then none else some (truncB b))=_
   rw [if_neg (by rw [hb'];exact Bool.false_ne_true)]
  rw [e,←h2 hb']
  simp only [fv,mkF,Con]
end Go.Proofs.YtjconanknjgpnaaGreat.vars
set_option maxRecDepth 100000
set_option linter.unusedVariables false
set_option linter.unusedSimpArgs false
namespace Go.Proofs.YtjconanknjgpnaaGreat.vars
open Go Go.Sx
def c124:VC:=⟨⟨[],[]⟩,[],[],0,true,[]⟩
def t124:VT:=
 (.lt (.bin .eql 3 false true) [64,J 4] 67 none
 (.ite 67
 (.lt (.bin .add 44 false false) [65,66] 68 none
 (.done (.tup [68,.bool false,.bool true])))
 (.lt (.bin .eql 3 false true) [64,J 5] 68 none
 (.ite 68
 (.lt (.bin .sub 44 false false) [65,66] 69 none
 (.done (.tup [69,.bool false,.bool true])))
 (.lt (.bin .eql 3 false true) [64,J 6] 69 none
 (.ite 69
 (.lt (.bin .mul 44 false false) [65,66] 70 none
 (.done (.tup [70,.bool false,.bool true])))
 (.lt (.bin .eql 3 false true) [64,J 7] 70 none
 (.ite 70
 (.lt (.bin .quo 44 false false) [65,66] 71 none
 (.done (.tup [71,.bool false,.bool true])))
 (.lt (.bin .eql 3 false true) [64,J 16] 71 none
 (.ite 71
 (.lt (.un .neg) [65] 72 none
 (.done (.tup [72,.bool false,.bool true])))
 (.lt (.bin .eql 3 false true) [64,J 9] 72 none
 (.ite 72
 (.lt (.bin .eql 44 false false) [65,66] 73 none
 (.done (.tup [.flt .f64 0,73,.bool true])))
 (.lt (.bin .eql 3 false true) [64,J 10] 73 none
 (.ite 73
 (.lt (.bin .neq 44 false false) [65,66] 74 none
 (.done (.tup [.flt .f64 0,74,.bool true])))
 (.lt (.bin .eql 3 false true) [64,J 11] 74 none
 (.ite 74
 (.lt (.bin .lss 44 false false) [65,66] 75 none
 (.done (.tup [.flt .f64 0,75,.bool true])))
 (.lt (.bin .eql 3 false true) [64,J 12] 75 none
 (.ite 75
 (.lt (.bin .leq 44 false false) [65,66] 76 none
 (.done (.tup [.flt .f64 0,76,.bool true])))
 (.done (.tup [.flt .f64 0,.bool false,.bool false]))))))))))))))))))))
def c85:VC:=⟨⟨[],[]⟩,[],[],0,true,[]⟩
def t85:VT:=
 (.lt (.bin .eql 3 false true) [64,J 4] 67 none
 (.ite 67
 (.lt (.bin .add 44 false false) [65,66] 68 none
 (.done (.tup [68,.bool false,.bool true])))
 (.lt (.bin .eql 3 false true) [64,J 5] 68 none
 (.ite 68
 (.lt (.bin .sub 44 false false) [65,66] 69 none
 (.done (.tup [69,.bool false,.bool true])))
 (.lt (.bin .eql 3 false true) [64,J 6] 69 none
 (.ite 69
 (.lt (.bin .mul 44 false false) [65,66] 70 none
 (.done (.tup [70,.bool false,.bool true])))
 (.lt (.bin .eql 3 false true) [64,J 7] 70 none
 (.ite 70
 (.lt (.bin .quo 44 false false) [65,66] 71 none
 (.done (.tup [71,.bool false,.bool true])))
 (.lt (.bin .eql 3 false true) [64,J 16] 71 none
 (.ite 71
 (.lt (.un .neg) [65] 72 none
 (.done (.tup [72,.bool false,.bool true])))
 (.lt (.bin .eql 3 false true) [64,J 9] 72 none
 (.ite 72
 (.lt (.bin .eql 44 false false) [65,66] 73 none
 (.done (.tup [.flt .f64 0,73,.bool true])))
 (.lt (.bin .eql 3 false true) [64,J 10] 73 none
 (.ite 73
 (.lt (.bin .neq 44 false false) [65,66] 74 none
 (.done (.tup [.flt .f64 0,74,.bool true])))
 (.lt (.bin .eql 3 false true) [64,J 11] 74 none
 (.ite 74
 (.lt (.bin .lss 44 false false) [65,66] 75 none
 (.done (.tup [.flt .f64 0,75,.bool true])))
 (.lt (.bin .eql 3 false true) [64,J 12] 75 none
 (.ite 75
 (.lt (.bin .leq 44 false false) [65,66] 76 none
 (.done (.tup [.flt .f64 0,76,.bool true])))
 (.done (.tup [.flt .f64 0,.bool false,.bool false]))))))))))))))))))))
def c86:VC:=⟨⟨[],[]⟩,[],[],0,true,[]⟩
def t86:VT:=
 (.ite 64
 (.done (.agg [J 1,J 1,.flt .f64 0]))
 (.done (.agg [J 1,J 0,.flt .f64 0])))
def c125:VC:=⟨⟨[],[]⟩,[],[],0,true,[]⟩
def t125:VT:=
 (.ite 64
 (.done (.agg [J 1,J 1,.flt .f64 0]))
 (.done (.agg [J 1,J 0,.flt .f64 0])))
def c159:VC:=⟨⟨[],[]⟩,[],[],0,true,[]⟩
def t159:VT:=
 (.lt (.bin .eql 3 false true) [64,J 2] 65 none
 (.ite 65
 (.done (.tup [.flt .f64 13898108450065350656,.bool true]))
 (.lt (.bin .eql 3 false true) [64,J 3] 66 none
 (.ite 66
 (.done (.tup [.flt .f64 13970166044103278592,.bool true]))
 (.lt (.bin .eql 3 false true) [64,J 4] 67 none
 (.ite 67
 (.done (.tup [.flt .f64 14114281232179134464,.bool true]))
 (.done (.tup [.flt .f64 0,.bool false]))))))))
def c122:VC:=⟨⟨[],[]⟩,[(159,[none,none]),(127,[none])],[],0,true,[]⟩
def t122:VT:=
 (.call 159 [64] 66 [none,none]
 (.lt (.un .not) [67] 68 none
 (.ite 68
 (.done (.tup [J 0,J 4]))
 (.call 127 [65] 69 [none]
 (.lt (.bin .geq 44 false false) [69,66] 70 none
 (.ite 70
 (.lt (.un .neg) [66] 71 none
 (.lt (.bin .lss 44 false false) [69,71] 72 none
 (.ite 72
 (.lt (.conv 44 2) [69] 73 none
 (.done (.tup [73,J 0])))
 (.done (.tup [J 0,J 7])))))
 (.done (.tup [J 0,J 7]))))))))
def c84:VC:=⟨⟨[],[]⟩,[(127,[none])],[],0,true,[]⟩
def t84 (lo hi:Nat):VT:=
 (.call 127 [.sym 64] 65 [none]
 (.lt (.bin .neq 44 false false) [.sym 64,.sym 64] 66 none
 (.ite 66
  (.done (.tup [.int .i64 0,.int .i64 7]))
  (.lt (.bin .lss 44 false false) [.sym 65,.flt .f64 lo] 67 none
  (.ite 67
   (.done (.tup [.int .i64 0,.int .i64 7]))
   (.lt (.bin .geq 44 false false) [.sym 65,.flt .f64 hi] 68 none
   (.ite 68
    (.done (.tup [.int .i64 0,.int .i64 7]))
    (.lt (.conv 44 2) [.sym 65] 69 none
    (.done (.tup [.sym 69,.int .i64 0]))))))))))
def c50:VC:=⟨⟨[],[]⟩,[(55,[none]),(84,[none,none])],[],0,true,[]⟩
def t50:VT:=
 (.lt (.bin .eql 3 false true) [64,J 5] 68 none
 (.ite 68
 (.lt (.bin .eql 3 false true) [65,J 5] 69 none
 (.ite 69
 (.done (.tup [.agg [65,66,67],J 0]))
 (.lt (.bin .eql 3 false true) [64,J 5] 70 none
 (.ite 70
 (.lt (.conv 2 44) [66] 71 none
 (.done (.tup [.agg [J 5,J 0,71],J 0])))
 (.lt (.bin .eql 3 false true) [65,J 5] 71 none
 (.ite 71
 (.call 84 [64,67] 72 [none,none]
 (.lt (.bin .neq 35 false true) [73,J 0] 74 none
 (.ite 74
 (.done (.tup [.agg [J 0,J 0,.flt .f64 0],73]))
 (.done (.tup [.agg [64,72,.flt .f64 0],J 0])))))
 (.call 55 [64,66] 72 [none]
 (.done (.tup [.agg [64,72,.flt .f64 0],J 0])))))))))
 (.lt (.bin .eql 3 false true) [64,J 5] 69 none
 (.ite 69
 (.lt (.conv 2 44) [66] 70 none
 (.done (.tup [.agg [J 5,J 0,70],J 0])))
 (.lt (.bin .eql 3 false true) [65,J 5] 70 none
 (.ite 70
 (.call 84 [64,67] 71 [none,none]
 (.lt (.bin .neq 35 false true) [72,J 0] 73 none
 (.ite 73
 (.done (.tup [.agg [J 0,J 0,.flt .f64 0],72]))
 (.done (.tup [.agg [64,71,.flt .f64 0],J 0])))))
 (.call 55 [64,66] 71 [none]
 (.done (.tup [.agg [64,71,.flt .f64 0],J 0])))))))))
def c51:VC:=⟨⟨[],[]⟩,[(85,[none,none,none]),(87,[none,none]),(86,[(some 3)])],[],0,true,[]⟩
def t51:VT:=
 (.lt (.bin .eql 3 false true) [65,J 5] 72 none
 (.ite 72
 (.call 85 [64,68,71] 73 [none,none,none]
 (.lt (.un .not) [75] 76 none
 (.ite 76
 (.done (.tup [.agg [J 0,J 0,.flt .f64 0],J 4]))
 (.lt (.bin .geq 3 false true) [64,J 9] 77 none
 (.ite 77
 (.lt (.bin .leq 3 false true) [64,J 12] 78 none
 (.ite 78
 (.call 86 [74] 79 [(some 3)]
 (.done (.tup [.agg [79,80,81],J 0])))
 (.done (.tup [.agg [J 5,J 0,73],J 0]))))
 (.done (.tup [.agg [J 5,J 0,73],J 0])))))))
 (.call 87 [64,65,67,70] 73 [none,none]
 (.lt (.bin .neq 35 false true) [74,J 0] 75 none
 (.ite 75
 (.done (.tup [.agg [J 0,J 0,.flt .f64 0],74]))
 (.lt (.bin .geq 3 false true) [64,J 9] 76 none
 (.ite 76
 (.lt (.bin .leq 3 false true) [64,J 12] 77 none
 (.ite 77
 (.done (.tup [.agg [J 1,73,.flt .f64 0],J 0]))
 (.done (.tup [.agg [65,73,.flt .f64 0],J 0]))))
 (.done (.tup [.agg [65,73,.flt .f64 0],J 0])))))))))
def c113:VC:=⟨⟨[],[]⟩,[],[],0,true,[]⟩
def t113:VT:=
 (.lt (.bin .neq 35 false true) [64,J 0] 65 none
 (.ite 65
 (.done (.tup [J 1,64]))
 (.done (.tup [J 0]))))
def c82:VC:=⟨⟨[],[]⟩,[(122,[none,none]),(123,[none])],[],0,true,[(113,ft113)]⟩
def t82:VT:=
 (.lt (.bin .eql 3 false true) [64,J 5] 68 none
 (.ite 68
 (.lt (.bin .eql 3 false true) [65,J 5] 69 none
 (.ite 69
 (.done (.tup [J 0,65,66,67]))
 (.lt (.bin .eql 3 false true) [64,J 5] 70 none
 (.ite 70
 (.lt (.conv 2 44) [66] 71 none
 (.done (.tup [J 0,64,J 0,71])))
 (.lt (.bin .eql 3 false true) [65,J 5] 71 none
 (.ite 71
 (.call 122 [64,67] 72 [none,none]
 (.callF 113 ft113 [73] 74
 (.cons 0
 (.done (.tup [J 0,64,72,.flt .f64 0]))
 (.cons 1
 (.done (.tup [J 1,75]))
 .nil))))
 (.call 123 [64,66] 72 [none]
 (.done (.tup [J 0,64,72,.flt .f64 0])))))))))
 (.lt (.bin .eql 3 false true) [64,J 5] 69 none
 (.ite 69
 (.lt (.conv 2 44) [66] 70 none
 (.done (.tup [J 0,64,J 0,70])))
 (.lt (.bin .eql 3 false true) [65,J 5] 70 none
 (.ite 70
 (.call 122 [64,67] 71 [none,none]
 (.callF 113 ft113 [72] 73
 (.cons 0
 (.done (.tup [J 0,64,71,.flt .f64 0]))
 (.cons 1
 (.done (.tup [J 1,74]))
 .nil))))
 (.call 123 [64,66] 71 [none]
 (.done (.tup [J 0,64,71,.flt .f64 0])))))))))
def c83:VC:=⟨⟨[],[]⟩,[(124,[none,none,none]),(126,[none,none]),(125,[(some 3)])],[],0,true,[(113,ft113)]⟩
def t83:VT:=
 (.lt (.iaddr 31) [65,J 0] 66 none
 (.lt (.load 46) [66] 67 (some 3)
 (.lt (.len 31) [65] 70 none
 (.lt (.bin .sub 3 false true) [70,J 1] 71 none
 (.lt (.iaddr 31) [65,71] 72 none
 (.lt (.load 46) [72] 73 (some 3)
 (.lt (.bin .eql 3 false true) [67,J 5] 76 none
 (.ite 76
 (.call 124 [64,69,75] 77 [none,none,none]
 (.lt (.un .not) [79] 80 none
 (.ite 80
 (.callF 113 ft113 [J 4] 81
 (.cons 0
 (.lt (.bin .geq 3 false true) [64,J 9] 82 none
 (.ite 82
 (.lt (.bin .leq 3 false true) [64,J 12] 83 none
 (.ite 83
 (.call 125 [78] 84 [(some 3)]
 (.done (.tup [J 0,84,85,86])))
 (.done (.tup [J 0,J 5,J 0,77]))))
 (.done (.tup [J 0,J 5,J 0,77]))))
 (.cons 1
 (.done (.tup [J 1,82]))
 .nil)))
 (.lt (.bin .geq 3 false true) [64,J 9] 81 none
 (.ite 81
 (.lt (.bin .leq 3 false true) [64,J 12] 82 none
 (.ite 82
 (.call 125 [78] 83 [(some 3)]
 (.done (.tup [J 0,83,84,85])))
 (.done (.tup [J 0,J 5,J 0,77]))))
 (.done (.tup [J 0,J 5,J 0,77])))))))
 (.call 126 [64,67,68,74] 77 [none,none]
 (.callF 113 ft113 [78] 79
 (.cons 0
 (.lt (.bin .geq 3 false true) [64,J 9] 80 none
 (.ite 80
 (.lt (.bin .leq 3 false true) [64,J 12] 81 none
 (.ite 81
 (.lt (.bin .neq 2 false true) [77,J 0] 82 none
 (.call 125 [82] 83 [(some 3)]
 (.done (.tup [J 0,83,84,85]))))
 (.done (.tup [J 0,67,77,.flt .f64 0]))))
 (.done (.tup [J 0,67,77,.flt .f64 0]))))
 (.cons 1
 (.done (.tup [J 1,80]))
 .nil))))))))))))
theorem run_fneg (a:Option Nat):(XOp.un .neg).run Tryz.prog [fv a]=some (fv (a.map (Op.negFloat .f64))):=by cases a<;>rfl
theorem run_fadd (t:TypeId) (cx cy:Bool) (a b:Option Nat):(XOp.bin .add t cx cy).run Tryz.prog [fv a,fv b]=some (fv (fArith FloatKind.f64.format.add a b)):=by rw [run_fbin];rfl
theorem run_fsub (t:TypeId) (cx cy:Bool) (a b:Option Nat):(XOp.bin .sub t cx cy).run Tryz.prog [fv a,fv b]=some (fv (fArith FloatKind.f64.format.sub a b)):=by rw [run_fbin];rfl
theorem run_fmul (t:TypeId) (cx cy:Bool) (a b:Option Nat):(XOp.bin .mul t cx cy).run Tryz.prog [fv a,fv b]=some (fv (fArith FloatKind.f64.format.mul a b)):=by rw [run_fbin];rfl
theorem run_fquo (t:TypeId) (cx cy:Bool) (a b:Option Nat):(XOp.bin .quo t cx cy).run Tryz.prog [fv a,fv b]=some (fv (fArith FloatKind.f64.format.div a b)):=by rw [run_fbin];rfl
theorem run_feql (t:TypeId) (cx cy:Bool) (a b:Option Nat):(XOp.bin .eql t cx cy).run Tryz.prog [fv a,fv b]=some (.bool (ordF a b==some .eq)):=by rw [run_fbin];rfl
theorem run_fneq (t:TypeId) (cx cy:Bool) (a b:Option Nat):(XOp.bin .neq t cx cy).run Tryz.prog [fv a,fv b]=some (.bool (ordF a b !=some .eq)):=by rw [run_fbin];rfl
theorem run_flss (t:TypeId) (cx cy:Bool) (a b:Option Nat):(XOp.bin .lss t cx cy).run Tryz.prog [fv a,fv b]=some (.bool (ordF a b==some .lt)):=by rw [run_fbin];rfl
theorem run_fleq (t:TypeId) (cx cy:Bool) (a b:Option Nat):(XOp.bin .leq t cx cy).run Tryz.prog [fv a,fv b]=some (.bool (ordF a b==some .lt||ordF a b==some .eq)):=by rw [run_fbin];rfl
theorem run_fgeq (t:TypeId) (cx cy:Bool) (a b:Option Nat):(XOp.bin .geq t cx cy).run Tryz.prog [fv a,fv b]=some (.bool (ordF a b==some .gt||ordF a b==some .eq)):=by rw [run_fbin];rfl
def OpR (op:Int):Prop:=(4<=op/\op<=7)\/op=16\/(9<=op/\op<=12)
def realF (op:Int) (a b:Option Nat):Option Nat:=
 if op=4 then fArith FloatKind.f64.format.add a b else if op=5 then fArith FloatKind.f64.format.sub a b else if op=6 then fArith FloatKind.f64.format.mul a b else if op=7 then fArith FloatKind.f64.format.div a b
 else if op=16 then a.map (Op.negFloat .f64)else some 0
def realT (op:Int) (a b:Option Nat):Bool:=if 9<=op/\op<=12 then ordR op (ordF a b)else false
theorem realV_F {op:Int} {a b:Option Nat} (h:OpR op):realV op a b=if 9<=op/\op<=12 then ⟨1,tI (realT op a b),some 0⟩else ⟨5,0,realF op a b⟩:=by
 rcases (by unfold OpR at h;omega:op=4\/op=5\/op=6\/op=7\/op=16\/op=9\/op=10\/op=11\/op=12)with rfl|rfl|rfl|rfl|rfl|rfl|rfl|rfl|rfl<;>rfl
theorem okRT (f:Option Nat) (b c:Bool):noRef (.tup [fv f,.bool b,.bool c])=true:=by
 cases f<;>rfl
theorem okIF (k:Int) (f:Option Nat):okL [.int .i64 k,fv f]=true:=by cases f<;>rfl
theorem okIFF (op:Int) (a b:Option Nat):okL [.int .i64 op,fv a,fv b]=true:=by cases a<;>cases b<;>rfl
theorem p124 (op:Int) (a b:Option Nat) (h:OpR op):Pure Tryz.prog 124 [.int .i64 op,fv a,fv b] (.tup [fv (realF op a b),.bool (realT op a b),.bool true]):=by
 unfold OpR at h
 refine pure_shape (sh:=[none,none,none]) (ls:=[.int .i64 op,fv a,fv b]) (c:=c124) (n:=300) (t:=t124) mo ov rfl (okIFF ..) (okRT ..) (λY _=>known0 _) rfl (by kernel_rfl) λY hf hg=>?_
 unfold t124
 (refine it_c rfl rfl (λh=>?_) (λh=>?_)<;>simp only [Cmp,Decidable.not_not,Int.not_lt,Int.not_le]at h<;>try (exfalso;first|exact h trivial|omega))
 ·subst op;(first
             |exact VOK_lt (run_fadd ..) (fv_ok _) (VOK_done (by rfl))
             |exact VOK_lt (run_fadd ..) rfl (VOK_done (by rfl)))
 (refine it_c rfl rfl (λh=>?_) (λh=>?_)<;>simp only [Cmp,Decidable.not_not,Int.not_lt,Int.not_le]at h<;>try (exfalso;first|exact h trivial|omega))
 ·subst op;(first
             |exact VOK_lt (run_fsub ..) (fv_ok _) (VOK_done (by rfl))
             |exact VOK_lt (run_fsub ..) rfl (VOK_done (by rfl)))
 (refine it_c rfl rfl (λh=>?_) (λh=>?_)<;>simp only [Cmp,Decidable.not_not,Int.not_lt,Int.not_le]at h<;>try (exfalso;first|exact h trivial|omega))
 ·subst op;(first
             |exact VOK_lt (run_fmul ..) (fv_ok _) (VOK_done (by rfl))
             |exact VOK_lt (run_fmul ..) rfl (VOK_done (by rfl)))
 (refine it_c rfl rfl (λh=>?_) (λh=>?_)<;>simp only [Cmp,Decidable.not_not,Int.not_lt,Int.not_le]at h<;>try (exfalso;first|exact h trivial|omega))
 ·subst op;(first
             |exact VOK_lt (run_fquo ..) (fv_ok _) (VOK_done (by rfl))
             |exact VOK_lt (run_fquo ..) rfl (VOK_done (by rfl)))
 (refine it_c rfl rfl (λh=>?_) (λh=>?_)<;>simp only [Cmp,Decidable.not_not,Int.not_lt,Int.not_le]at h<;>try (exfalso;first|exact h trivial|omega))
 ·subst op;(first
             |exact VOK_lt (run_fneg ..) (fv_ok _) (VOK_done (by rfl))
             |exact VOK_lt (run_fneg ..) rfl (VOK_done (by rfl)))
 (refine it_c rfl rfl (λh=>?_) (λh=>?_)<;>simp only [Cmp,Decidable.not_not,Int.not_lt,Int.not_le]at h<;>try (exfalso;first|exact h trivial|omega))
 ·subst op;(first
             |exact VOK_lt (run_feql ..) (fv_ok _) (VOK_done (by rfl))
             |exact VOK_lt (run_feql ..) rfl (VOK_done (by rfl)))
 (refine it_c rfl rfl (λh=>?_) (λh=>?_)<;>simp only [Cmp,Decidable.not_not,Int.not_lt,Int.not_le]at h<;>try (exfalso;first|exact h trivial|omega))
 ·subst op;(first
             |exact VOK_lt (run_fneq ..) (fv_ok _) (VOK_done (by rfl))
             |exact VOK_lt (run_fneq ..) rfl (VOK_done (by rfl)))
 (refine it_c rfl rfl (λh=>?_) (λh=>?_)<;>simp only [Cmp,Decidable.not_not,Int.not_lt,Int.not_le]at h<;>try (exfalso;first|exact h trivial|omega))
 ·subst op;(first
             |exact VOK_lt (run_flss ..) (fv_ok _) (VOK_done (by rfl))
             |exact VOK_lt (run_flss ..) rfl (VOK_done (by rfl)))
 (refine it_c rfl rfl (λh=>?_) (λh=>?_)<;>simp only [Cmp,Decidable.not_not,Int.not_lt,Int.not_le]at h<;>try (exfalso;first|exact h trivial|omega))
 subst op;(first
            |exact VOK_lt (run_fleq ..) (fv_ok _) (VOK_done (by rfl))
            |exact VOK_lt (run_fleq ..) rfl (VOK_done (by rfl)))
theorem p85 (op:Int) (a b:Option Nat) (h:OpR op):Pure Tryz.prog 85 [.int .i64 op,fv a,fv b] (.tup [fv (realF op a b),.bool (realT op a b),.bool true]):=by
 unfold OpR at h
 refine pure_shape (sh:=[none,none,none]) (ls:=[.int .i64 op,fv a,fv b]) (c:=c85) (n:=300) (t:=t85) mo ov rfl (okIFF ..) (okRT ..) (λY _=>known0 _) rfl (by kernel_rfl) λY hf hg=>?_
 unfold t85
 (refine it_c rfl rfl (λh=>?_) (λh=>?_)<;>simp only [Cmp,Decidable.not_not,Int.not_lt,Int.not_le]at h<;>try (exfalso;first|exact h trivial|omega))
 ·subst op;(first
             |exact VOK_lt (run_fadd ..) (fv_ok _) (VOK_done (by rfl))
             |exact VOK_lt (run_fadd ..) rfl (VOK_done (by rfl)))
 (refine it_c rfl rfl (λh=>?_) (λh=>?_)<;>simp only [Cmp,Decidable.not_not,Int.not_lt,Int.not_le]at h<;>try (exfalso;first|exact h trivial|omega))
 ·subst op;(first
             |exact VOK_lt (run_fsub ..) (fv_ok _) (VOK_done (by rfl))
             |exact VOK_lt (run_fsub ..) rfl (VOK_done (by rfl)))
 (refine it_c rfl rfl (λh=>?_) (λh=>?_)<;>simp only [Cmp,Decidable.not_not,Int.not_lt,Int.not_le]at h<;>try (exfalso;first|exact h trivial|omega))
 ·subst op;(first
             |exact VOK_lt (run_fmul ..) (fv_ok _) (VOK_done (by rfl))
             |exact VOK_lt (run_fmul ..) rfl (VOK_done (by rfl)))
 (refine it_c rfl rfl (λh=>?_) (λh=>?_)<;>simp only [Cmp,Decidable.not_not,Int.not_lt,Int.not_le]at h<;>try (exfalso;first|exact h trivial|omega))
 ·subst op;(first
             |exact VOK_lt (run_fquo ..) (fv_ok _) (VOK_done (by rfl))
             |exact VOK_lt (run_fquo ..) rfl (VOK_done (by rfl)))
 (refine it_c rfl rfl (λh=>?_) (λh=>?_)<;>simp only [Cmp,Decidable.not_not,Int.not_lt,Int.not_le]at h<;>try (exfalso;first|exact h trivial|omega))
 ·subst op;(first
             |exact VOK_lt (run_fneg ..) (fv_ok _) (VOK_done (by rfl))
             |exact VOK_lt (run_fneg ..) rfl (VOK_done (by rfl)))
 (refine it_c rfl rfl (λh=>?_) (λh=>?_)<;>simp only [Cmp,Decidable.not_not,Int.not_lt,Int.not_le]at h<;>try (exfalso;first|exact h trivial|omega))
 ·subst op;(first
             |exact VOK_lt (run_feql ..) (fv_ok _) (VOK_done (by rfl))
             |exact VOK_lt (run_feql ..) rfl (VOK_done (by rfl)))
 (refine it_c rfl rfl (λh=>?_) (λh=>?_)<;>simp only [Cmp,Decidable.not_not,Int.not_lt,Int.not_le]at h<;>try (exfalso;first|exact h trivial|omega))
 ·subst op;(first
             |exact VOK_lt (run_fneq ..) (fv_ok _) (VOK_done (by rfl))
             |exact VOK_lt (run_fneq ..) rfl (VOK_done (by rfl)))
 (refine it_c rfl rfl (λh=>?_) (λh=>?_)<;>simp only [Cmp,Decidable.not_not,Int.not_lt,Int.not_le]at h<;>try (exfalso;first|exact h trivial|omega))
 ·subst op;(first
             |exact VOK_lt (run_flss ..) (fv_ok _) (VOK_done (by rfl))
             |exact VOK_lt (run_flss ..) rfl (VOK_done (by rfl)))
 (refine it_c rfl rfl (λh=>?_) (λh=>?_)<;>simp only [Cmp,Decidable.not_not,Int.not_lt,Int.not_le]at h<;>try (exfalso;first|exact h trivial|omega))
 subst op;(first
            |exact VOK_lt (run_fleq ..) (fv_ok _) (VOK_done (by rfl))
            |exact VOK_lt (run_fleq ..) rfl (VOK_done (by rfl)))
theorem p86 (b:Bool):Pure Tryz.prog 86 [.bool b] (.agg (encV ⟨1,tI b,some 0⟩)):=by
 refine pure_shape (sh:=[none]) (ls:=[.bool b]) (c:=c86) (n:=300) (t:=t86) mo ov rfl rfl rfl (λY _=>known0 _) rfl (by kernel_rfl) λY hf hg=>?_
 unfold t86
 cases b
 ·exact VOK_ite (t:=false) rfl (λh=>by cases h) (λh=>VOK_done rfl)
 ·exact VOK_ite (t:=true) rfl (λh=>VOK_done rfl) (λh=>by cases h)
theorem p125 (b:Bool):Pure Tryz.prog 125 [.bool b] (.agg (encV ⟨1,tI b,some 0⟩)):=by
 refine pure_shape (sh:=[none]) (ls:=[.bool b]) (c:=c125) (n:=300) (t:=t125) mo ov rfl rfl rfl (λY _=>known0 _) rfl (by kernel_rfl) λY hf hg=>?_
 unfold t125
 cases b
 ·exact VOK_ite (t:=false) rfl (λh=>by cases h) (λh=>VOK_done rfl)
 ·exact VOK_ite (t:=true) rfl (λh=>VOK_done rfl) (λh=>by cases h)
theorem p159 {k:Int} (h:2<=k/\k<=4):Pure Tryz.prog 159 [.int .i64 k] (.tup [fv (some (loK k)),.bool true]):=by
 refine pure_shape (sh:=[none]) (ls:=[.int .i64 k]) (c:=c159) (n:=300) (t:=t159) mo ov rfl rfl rfl (λY _=>known0 _) rfl (by kernel_rfl) λY hf hg=>?_
 unfold t159
 (refine it_c rfl rfl (λh=>?_) (λh=>?_)<;>simp only [Cmp,Decidable.not_not,Int.not_lt,Int.not_le]at h<;>try (exfalso;first|exact h trivial|omega))
 ·subst k;exact VOK_done rfl
 (refine it_c rfl rfl (λh=>?_) (λh=>?_)<;>simp only [Cmp,Decidable.not_not,Int.not_lt,Int.not_le]at h<;>try (exfalso;first|exact h trivial|omega))
 ·subst k;exact VOK_done rfl
 (refine it_c rfl rfl (λh=>?_) (λh=>?_)<;>simp only [Cmp,Decidable.not_not,Int.not_lt,Int.not_le]at h<;>try (exfalso;first|exact h trivial|omega))
 subst k;exact VOK_done rfl
theorem neg_lo {k:Int} (h:2<=k/\k<=4):Op.negFloat .f64 (loK k)=hiK k:=by
 rcases (by omega:k=2\/k=3\/k=4)with rfl|rfl|rfl<;>kernel_rfl
def wholeN (k:Int) (f:Option Nat):Int:=(wholeV k f).getD 0
def wholeE (k:Int) (f:Option Nat):Int:=if (wholeV k f).isSome then 0 else 7
theorem cvW {k:Int} {f:Option Nat} {n:Int} (h:2<=k/\k<=4) (hn:wholeV k f=some n):(XOp.conv 44 2).run Tryz.prog [fv (truncF f)]=some (.int .i64 n):=by
 have hi:=(wholeV_in h hn).i64
 unfold wholeV at hn
 split at hn;· cases hn
 split at hn;· cases hn
 split at hn
 ·exact run_conv_F Tryz.underlying44 Tryz.underlying2 hn hi.1 hi.2
 ·cases hn
theorem whole_some {k:Int} {f:Option Nat} (h:2<=k/\k<=4) (h0:nanF f=false) (h1:ordF (truncF f) (some (loK k))≠some .lt) (h2:ordF (truncF f) (some (hiK k))=some .lt):∃n,wholeV k f=some n:=by
 unfold wholeV
 rw [h0,if_neg (by decide),if_neg h1,if_pos h2]
 rcases (by omega:k=2\/k=3\/k=4)with rfl|rfl|rfl
 ·obtain ⟨m,e,a,b⟩:=wholeF_range (k:=15) (j:= -37) rfl (by kernel_rfl) (by kernel_rfl) h1 h2
  exact ⟨m,e⟩
 ·obtain ⟨m,e,a,b⟩:=wholeF_range (k:=31) (j:= -21) rfl (by kernel_rfl) (by kernel_rfl) h1 h2
  exact ⟨m,e⟩
 ·obtain ⟨m,e,a,b⟩:=wholeF_range (k:=63) (j:=11) rfl (by kernel_rfl) (by kernel_rfl) h1 h2
  exact ⟨m,e⟩
theorem nan_lo {k:Int} (h:2<=k/\k<=4):nanF (some (loK k))=false/\nanF (some (hiK k))=false:=by
 rcases (by omega:k=2\/k=3\/k=4)with rfl|rfl|rfl<;>exact ⟨by kernel_rfl,by kernel_rfl⟩
theorem whole_done {k:Int} {f:Option Nat} {n:Int} (h:wholeV k f=some n):AV.tup [.int .i64 n,.int .i64 0]=.tup [.int .i64 (wholeN k f),.int .i64 (wholeE k f)]:=by
 unfold wholeN wholeE
 rw [h];rfl
theorem whole_none {k:Int} {f:Option Nat} (h:wholeV k f=none):AV.tup [.int .i64 0,.int .i64 7]=.tup [.int .i64 (wholeN k f),.int .i64 (wholeE k f)]:=by
 unfold wholeN wholeE
 rw [h];rfl
theorem ord_lo {k:Int} (h:2<=k/\k<=4) {f:Option Nat} (hn:nanF f=false):(ordF (truncF f) (some (loK k))==some .gt||ordF (truncF f) (some (loK k))==some .eq)= !(ordF (truncF f) (some (loK k))==some .lt):=by
 obtain ⟨o,e⟩:=ordF_some (a:=truncF f) (b:=some (loK k)) (by rw [truncF_nan];exact hn) (nan_lo h).1
 rw [e]
 cases o<;>rfl
theorem ord_hi {k:Int} (h:2<=k/\k<=4) {f:Option Nat} (hn:nanF f=false):(ordF (truncF f) (some (hiK k))==some .gt||ordF (truncF f) (some (hiK k))==some .eq)= !(ordF (truncF f) (some (hiK k))==some .lt):=by
 obtain ⟨o,e⟩:=ordF_some (a:=truncF f) (b:=some (hiK k)) (by rw [truncF_nan];exact hn) (nan_lo h).2
 rw [e]
 cases o<;>rfl
theorem p122 {k:Int} (h:2<=k/\k<=4) (f:Option Nat):Pure Tryz.prog 122 [.int .i64 k,fv f] (.tup [.int .i64 (wholeN k f),.int .i64 (wholeE k f)]):=by
 refine pure_shape (sh:=[none,none]) (ls:=[.int .i64 k,fv f]) (c:=c122) (n:=300) (t:=t122) mo ov rfl (okIF ..) rfl (λY _=>known0 _) rfl (by kernel_rfl) λY hf hg=>?_
 unfold t122
 refine VOK_call (p159 h) rfl rfl (VOK_lt rfl rfl (VOK_ite (t:=false) rfl (λh=>by cases h) (λ_=>?_)))
 refine VOK_call (p127 f) rfl (by simp only [okL,fv_ok]) (VOK_lt (run_fgeq ..) rfl (VOK_ite rfl (λh1=>?_) (λh1=>?_)))
 ·refine VOK_lt (run_fneg ..) (fv_ok _) (VOK_lt (run_flss ..) rfl (VOK_ite rfl (λh2=>?_) (λh2=>?_)))
  ·have h2:(ordF (truncF f) (some (Op.negFloat .f64 (loK k)))==some .lt)=true:=h2
   rw [neg_lo h]at h2
   have hn:nanF f=false:=by
    cases hc:nanF f with
    |false=>rfl
    |true=>
     rw [ordF_nan (by rw [truncF_nan];exact hc)]at h2
     cases h2
   rw [ord_lo h hn]at h1
   obtain ⟨n,hw⟩:=whole_some h hn (λe=>by rw [e]at h1;cases h1) (by simpa using h2)
   exact VOK_lt (cvW h hw) rfl (VOK_done (whole_done hw))
  ·have h2:(ordF (truncF f) (some (Op.negFloat .f64 (loK k)))==some .lt)=false:=h2
   rw [neg_lo h]at h2
   refine VOK_done (whole_none ?_)
   unfold wholeV
   split;· rfl
   split;· rfl
   split
   ·rename_i e;rw [e]at h2;cases h2
   ·rfl
 ·refine VOK_done (whole_none ?_)
  unfold wholeV
  split;· rfl
  rename_i hn
  have hn:nanF f=false:=by simpa using hn
  rw [ord_lo h hn]at h1
  rw [if_pos (by simpa using h1)]
theorem okF1 (f:Option Nat):okL [fv f]=true:=by cases f<;>rfl
theorem okIF' (k:Int) (f:Option Nat):okIL [.int .i64 k,fv f]=true:=by cases f<;>rfl
theorem eqF_nan (f:Option Nat):(ordF f f !=some .eq)=nanF f:=by
 show (!(ordF f f==some .eq))=_
 rw [ordF_self,Bool.not_not]
theorem v84 {k:Int} (h:2<=k/\k<=4) (f:Option Nat) {Y:Sy} {L:List (Nat->List AV->Prop)}:VOK Tryz.prog (· =.tup [.int .i64 (wholeN k f),.int .i64 (wholeE k f)]) L (Y.puts 64 [fv f]) (t84 (loK k) (hiK k)):=by
 unfold t84
 refine VOK_call (p127 f) rfl (okF1 _) (VOK_lt (run_fneq ..) rfl (VOK_ite rfl (λh1=>?_) (λh1=>?_)))
 ·rw [eqF_nan]at h1
  refine VOK_done (whole_none ?_)
  unfold wholeV
  rw [if_pos h1]
 rw [eqF_nan]at h1
 refine VOK_lt (run_flss _ _ _ (truncF f) (some (loK k))) rfl (VOK_ite rfl (λh2=>?_) (λh2=>?_))
 ·refine VOK_done (whole_none ?_)
  unfold wholeV
  rw [h1,if_neg (by decide),if_pos (by simpa using h2)]
 refine VOK_lt (run_fgeq _ _ _ (truncF f) (some (hiK k))) rfl (VOK_ite rfl (λh3=>?_) (λh3=>?_))
 ·refine VOK_done (whole_none ?_)
  rw [ord_hi h h1]at h3
  unfold wholeV
  rw [h1,if_neg (by decide),if_neg (by simpa using h2),if_neg (by simpa using h3)]
 ·rw [ord_hi h h1]at h3
  obtain ⟨n,hw⟩:=whole_some h h1 (by simpa using h2) (by simpa using h3)
  exact VOK_lt (cvW h hw) rfl (VOK_done (whole_done hw))
theorem p84 {k:Int} (h:2<=k/\k<=4) (f:Option Nat):Pure Tryz.prog 84 [.int .i64 k,fv f] (.tup [.int .i64 (wholeN k f),.int .i64 (wholeE k f)]):=by
 rcases (by omega:k=2\/k=3\/k=4)with rfl|rfl|rfl
 ·exact pure_pat (args':=[.int .i64 2,.sym 64]) (ls:=[fv f]) (c:=c84) (n:=300) (t:=t84 (loK 2) (hiK 2)) mo ov (okIF' ..) rfl (okF1 ..) rfl (λY _=>rfl) (λY _=>known0 _) rfl (by kernel_rfl) λY hf hg=>v84 h f
 ·exact pure_pat (args':=[.int .i64 3,.sym 64]) (ls:=[fv f]) (c:=c84) (n:=300) (t:=t84 (loK 3) (hiK 3)) mo ov (okIF' ..) rfl (okF1 ..) rfl (λY _=>rfl) (λY _=>known0 _) rfl (by kernel_rfl) λY hf hg=>v84 h f
 ·exact pure_pat (args':=[.int .i64 4,.sym 64]) (ls:=[fv f]) (c:=c84) (n:=300) (t:=t84 (loK 4) (hiK 4)) mo ov (okIF' ..) rfl (okF1 ..) rfl (λY _=>rfl) (λY _=>known0 _) rfl (by kernel_rfl) λY hf hg=>v84 h f
theorem okKV (k:Int) (v:FV):okL ([.int .i64 k]++encV v)=true:=by
 show okL (.int .i64 k::encV v)=true
 rw [okL_cons];exact okV v
theorem okVI (v:FV) (e:Int):okL (encV v++[.int .i64 e])=true:=encL_ok.okL_join (okV v) rfl
theorem noRefVE (v:FV) (e:Int):noRef (.tup [.agg (encV v),.int .i64 e])=true:=by
 rcases v with ⟨k,i,f⟩
 cases f<;>rfl
def convW (k:Int) (v:FV):FV:=match convV k v with
 | .ok w=>w
 | .error _=>FV.z
def convE (k:Int) (v:FV):Int:=match convV k v with
 | .ok _=>0
 | .error e=>e
theorem conv_ok {k:Int} {v w:FV} (h:convV k v=.ok w):convW k v=w/\convE k v=0:=by
 unfold convW convE;rw [h];exact ⟨rfl,rfl⟩
theorem conv_er {k e:Int} {v:FV} (h:convV k v=.error e):convW k v=FV.z/\convE k v=e:=by
 unfold convW convE;rw [h];exact ⟨rfl,rfl⟩
theorem run_cif (i:Int):(XOp.conv 2 44).run Tryz.prog [.int .i64 i]=some (fv (some (FloatKind.f64.nearest i))):=rfl
theorem p50 {k:Int} (h:2<=k/\k<=5) (v:FV) (hv:1<=v.k/\v.k<=5):Pure Tryz.prog 50 [.int .i64 k,.agg (encV v)] (.tup [.agg (encV (convW k v)),.int .i64 (convE k v)]):=by
 refine pure_shape (sh:=[none,some 3]) (ls:=[.int .i64 k]++encV v) (c:=c50) (n:=300) (t:=t50) mo ov rfl (okKV ..) (noRefVE ..) (λY _=>known0 _) rfl (by kernel_rfl) λY hf hg=>?_
 unfold t50
 have fin:∀{w:FV} {e:Int},convW k v=w/\convE k v=e->AV.tup [.agg (encV w),.int .i64 e]=.tup [.agg (encV (convW k v)),.int .i64 (convE k v)]:=λ⟨h1,h2⟩=>by rw [h1,h2]
 (refine it_c rfl rfl (λh=>?_) (λh=>?_)<;>simp only [Cmp,Decidable.not_not,Int.not_lt,Int.not_le]at h<;>try (exfalso;first|exact h trivial|omega))
 ·have e5:=h
  subst e5
  (refine it_c rfl rfl (λh=>?_) (λh=>?_)<;>simp only [Cmp,Decidable.not_not,Int.not_lt,Int.not_le]at h<;>try (exfalso;first|exact h trivial|omega))
  ·exact VOK_done (fin (conv_ok (by unfold convV;rw [if_pos rfl,if_pos ‹v.k=5›])))
  ·(refine it_c rfl rfl (λh=>?_) (λh=>?_)<;>simp only [Cmp,Decidable.not_not,Int.not_lt,Int.not_le]at h<;>try (exfalso;first|exact h trivial|omega))
   refine VOK_lt (run_cif _) rfl (VOK_done (fin (w:=⟨5,0,some (FloatKind.f64.nearest v.i)⟩) (conv_ok (by unfold convV;rw [if_pos rfl,if_neg ‹¬v.k=5›]))))
 have hk:2<=k/\k<=4:=by omega
 (refine it_c rfl rfl (λh=>?_) (λh=>?_)<;>simp only [Cmp,Decidable.not_not,Int.not_lt,Int.not_le]at h<;>try (exfalso;first|exact h trivial|omega))
 (refine it_c rfl rfl (λh=>?_) (λh=>?_)<;>simp only [Cmp,Decidable.not_not,Int.not_lt,Int.not_le]at h<;>try (exfalso;first|exact h trivial|omega))
 ·have h5:=h
  refine VOK_call (p84 hk v.f) rfl rfl ?_
  cases hw:wholeV k v.f with
  |some n=>
   have e1:wholeE k v.f=0:=by unfold wholeE;rw [hw];rfl
   have e2:wholeN k v.f=n:=by unfold wholeN;rw [hw];rfl
   rw [e1,e2]
   (refine it_c rfl rfl (λh=>?_) (λh=>?_)<;>simp only [Cmp,Decidable.not_not,Int.not_lt,Int.not_le]at h<;>try (exfalso;first|exact h trivial|omega))
   exact VOK_done (fin (w:=⟨k,n,some 0⟩) (conv_ok (by unfold convV;rw [if_neg (by omega),if_pos h5,hw])))
  |none=>
   have e1:wholeE k v.f=7:=by unfold wholeE;rw [hw];rfl
   rw [e1]
   (refine it_c rfl rfl (λh=>?_) (λh=>?_)<;>simp only [Cmp,Decidable.not_not,Int.not_lt,Int.not_le]at h<;>try (exfalso;first|exact h trivial|omega))
   exact VOK_done (fin (w:=FV.z) (conv_er (by unfold convV;rw [if_neg (by omega),if_pos h5,hw])))
 ·have h5:=h
  refine VOK_call (p55 (by omega) _) rfl rfl (VOK_done (fin (w:=⟨k,wrapK k v.i,some 0⟩) (conv_ok (by unfold convV;rw [if_neg (by omega),if_neg h5]))))
end Go.Proofs.YtjconanknjgpnaaGreat.vars
set_option linter.unusedVariables false
set_option linter.unusedSimpArgs false
namespace Go.Proofs.YtjconanknjgpnaaGreat.vars
open Go Go.Sx
def kindsM:List Int:=[2,1,2,1,2,3,5,4,2,2,2,2,1,4,1,4,1,2,1,1,1]
def MemOk (mem:List FV):Prop:=mem.map FV.k=kindsM/\∀v∈mem,TV v
def cell (mem:List FV) (n:Int):FV:=mem.getD n.toNat FV.z
def madeX (mem:List FV) (op kd ad n:Int) (a b:FV):Except Int FV:=
 if op=3 then (if a.i<0\/n<=a.i then .error 6 else .ok (cell mem (ad+a.i)))
 else if op=17 then convV kd a
 else if opE op a.k b=0 then .ok (opV op a.k a b)else .error (opE op a.k b)
mutual
def evalX (mem:List FV):GX->Except Int FV
 | .mk op kd nm fd ad n vk vi vf args=>if op=1 then .ok ⟨vk,vi,some vf⟩else if op=2 then .ok (cell mem ad)else match evalL mem args with
   | .error e=>.error e
   | .ok l=>madeX mem op kd ad n (l.headD FV.z) (l.getLastD FV.z)
def evalL (mem:List FV):List GX->Except Int (List FV)
 |[]=>.ok []
 |a::r=>match evalX mem a with
  | .error e=>.error e
  | .ok v=>match evalL mem r with
    | .error e=>.error e
    | .ok l=>.ok (v::l)
end
section
variable {mem:List FV}
theorem MemOk.len (h:MemOk mem):mem.length=21:=by
 have:=congrArg List.length h.1
 rw [List.length_map]at this
 exact this
theorem cell_eq {n:Nat} (h:n<mem.length):cell mem (n:Int)=mem[n]:=by
 unfold cell
 rw [Int.toNat_natCast,List.getD_eq_getElem?_getD,List.getElem?_eq_getElem h]
 rfl
theorem MemOk.cell (h:MemOk mem) {n:Int} (h1:0<=n) (h2:n<21):TV (cell mem n)/\(cell mem n).k=kindsM.getD n.toNat 0:=by
 obtain ⟨m,rfl⟩:∃m:Nat,n=(m:Int):=⟨n.toNat,by omega⟩
 have hl:=h.len
 have hm:m<mem.length:=by omega
 rw [cell_eq hm]
 refine ⟨h.2 _ (List.getElem_mem hm),?_⟩
 have:kindsM=mem.map FV.k:=h.1.symm
 rw [this,Int.toNat_natCast,List.getD_eq_getElem?_getD,List.getElem?_map,List.getElem?_eq_getElem hm]
 rfl
theorem cells_k:∀t∈cellsL,0<=t.1/\t.1<21/\kindsM.getD t.1.toNat 0=t.2:=by decide
theorem TX_op {d:Nat} {op kd:Int} {nm fd:List UInt8} {ad n vk vi:Int} {vf:Nat} {args:List GX} (h:TX d (.mk op kd nm fd ad n vk vi vf args)):1<=op/\op<=17:=by
 cases d with
 |zero=>exact h.elim
 |succ d=>
  have:=h.1
  unfold Ari at this
  omega
theorem intE_ok {op b:Int}:intE op b=0\/intE op b=5:=by
 unfold intE
 split
 ·exact .inr rfl
 ·exact .inl rfl
theorem opE_ok {op k:Int} {b:FV}:opE op k b=0\/opE op k b=5:=by
 unfold opE
 split
 ·exact .inl rfl
 ·exact intE_ok
def Vals (l:List GX) (vs:List FV):Prop:=vs.map FV.k=l.map GX.kd/\∀v∈vs,TV v
theorem evalL_TV {d:Nat} (hx:∀x,TX d x->∀v,evalX mem x=.ok v->TV v/\v.k=x.kd):∀(l:List GX),(∀a∈l,TX d a)->∀vs,evalL mem l=.ok vs->Vals l vs
 |[],_,vs,h=>by
  simp only [evalL,Except.ok.injEq]at h
  subst h
  exact ⟨rfl,λv hv=>(List.not_mem_nil hv).elim⟩
 |a::r,hl,vs,h=>by
  simp only [evalL]at h
  split at h
  ·cases h
  ·rename_i v hv
   split at h
   ·cases h
   ·rename_i ws hw
    cases h
    obtain ⟨h1,h2⟩:=evalL_TV hx r (λb hb=>hl b (List.mem_cons_of_mem _ hb)) ws hw
    obtain ⟨h3,h4⟩:=hx a (hl a List.mem_cons_self) v hv
    refine ⟨by simp only [List.map_cons,h4,h1],λu hu=>?_⟩
    rcases List.mem_cons.1 hu with rfl|hu
    ·exact h3
    ·exact h2 u hu
theorem ari_op {op:Int} {n:Nat} (h:Ari op n) (h1:op≠1) (h2:op≠2):op=3\/op=17\/op=15\/op=16\/(4<=op/\op<=14):=by
 unfold Ari at h
 omega
theorem one_of {vs:List FV} {k:Int} (h:vs.map FV.k=[k]):∃a,vs=[a]/\a.k=k:=by
 match vs,h with
 |[],h=>cases h
 |[a],h=>exact ⟨a,rfl,by simpa using h⟩
 |_::_::_,h=>simp at h
theorem two_of {vs:List FV} {k l:Int} (h:vs.map FV.k=[k,l]):∃a b,vs=[a,b]/\a.k=k/\b.k=l:=by
 match vs,h with
 |[],h=>cases h
 |[a],h=>simp at h
 |[a,b],h=>exact ⟨a,b,rfl,by simpa using h⟩
 |_::_::_::_,h=>simp at h
theorem madeX_TV {d:Nat} {op kd:Int} {nm fd:List UInt8} {ad n vk vi:Int} {vf:Nat} {args:List GX} (hm:MemOk mem) (h:TX (d+1) (.mk op kd nm fd ad n vk vi vf args)) (h1:op≠1) (h2:op≠2) {vs:List FV} (hv:Vals args vs):
  ∃a b:FV,vs.headD FV.z=a/\vs.getLastD FV.z=b/\TV a/\TV b/\(op=3->(a.k=2\/a.k=3)/\vs=[a])/\(op=17->2<=a.k/\a.k<=5/\vs=[a])/\(op≠3->op≠17->OpK op a.k/\b.k=a.k/\(if 9<=op/\op<=12 then 1 else a.k)=kd/\(vs=[a]/\(op=15\/op=16)\/vs=[a,b]/\op<=14))/\
   ∀v,madeX mem op kd ad n a b=.ok v->TV v/\v.k=kd:=by
 obtain ⟨a1,a2,a3,a4,⟨k1,k2,k3,k4,k5,k6,k7⟩,a6⟩:=h
 have hop:=ari_op a1 h1 h2
 have hks:=hv.1
 have key:∀a b:FV,TV a->TV b->(op=3->ad=8/\n=4/\kd=2)->(op=17->2<=kd/\kd<=5)->(op≠3->op≠17->OpK op a.k/\b.k=a.k/\(if 9<=op/\op<=12 then 1 else a.k)=kd)->∀v,madeX mem op kd ad n a b=.ok v->TV v/\v.k=kd:=by
  intro a b ha hb e3 e17 eo v hf
  unfold madeX at hf
  split at hf
  ·rename_i e
   obtain ⟨rfl,rfl,rfl⟩:=e3 e
   split at hf
   ·cases hf
   ·rename_i hr
    cases hf
    have hr1:0<=a.i/\a.i<4:=by omega
    obtain ⟨p,q⟩:=hm.cell (n:=8+a.i) (by omega) (by omega)
    refine ⟨p,?_⟩
    rw [q]
    rcases (by omega:a.i=0\/a.i=1\/a.i=2\/a.i=3)with e|e|e|e<;>rw [e]<;>rfl
  ·rename_i n3
   split at hf
   ·rename_i e
    exact convV_TV (e17 e) ha hf
   ·rename_i n17
    obtain ⟨q1,q2,q3⟩:=eo n3 n17
    split at hf
    ·cases hf
     exact ⟨opV_TV q1 ha rfl,by rw [opV_k q1,q3]⟩
    ·cases hf
 rcases hop with e|e|e|e|e
 ·obtain ⟨r1,r2,r3,k,r4,r5⟩:=k3 e
  rw [r4]at hks
  obtain ⟨a,rfl,hk⟩:=one_of hks
  ·clear k1 k2 k3 k4 k5 k6 k7
   have ha:=hv.2 a List.mem_cons_self
   exact ⟨a,a,rfl,rfl,ha,ha,λ_=>⟨by omega,rfl⟩,λh=>by omega,λh=>absurd e h,key a a ha ha (λ_=>⟨r1,r2,r3⟩) (λh=>by omega) (λh=>absurd e h)⟩
 ·obtain ⟨r1,r2,k,r4,r5⟩:=k7 e
  rw [r4]at hks
  obtain ⟨a,rfl,hk⟩:=one_of hks
  ·clear k1 k2 k3 k4 k5 k6 k7
   have ha:=hv.2 a List.mem_cons_self
   exact ⟨a,a,rfl,rfl,ha,ha,λh=>by omega,λ_=>⟨by omega,by omega,rfl⟩,λ_ h=>absurd e h,key a a ha ha (λh=>by omega) (λ_=>⟨r1,r2⟩) (λ_ h=>absurd e h)⟩
 ·obtain ⟨r1,r4⟩:=k5 e
  rw [r4]at hks
  obtain ⟨a,rfl,hk⟩:=one_of hks
  ·clear k1 k2 k3 k4 k5 k6 k7
   have ha:=hv.2 a List.mem_cons_self
   have ho:OpK op a.k:=by unfold OpK;omega
   have hi:(if 9<=op/\op<=12 then 1 else a.k)=kd:=by rw [if_neg (by omega)];omega
   exact ⟨a,a,rfl,rfl,ha,ha,λh=>by omega,λh=>by omega,λ_ _=>⟨ho,rfl,hi,.inl ⟨rfl,.inl e⟩⟩,key a a ha ha (λh=>by omega) (λh=>by omega) (λ_ _=>⟨ho,rfl,hi⟩)⟩
 ·obtain ⟨r4,r1,r2⟩:=k6 e
  rw [r4]at hks
  obtain ⟨a,rfl,hk⟩:=one_of hks
  ·clear k1 k2 k3 k4 k5 k6 k7
   have ha:=hv.2 a List.mem_cons_self
   have ho:OpK op a.k:=by unfold OpK;omega
   have hi:(if 9<=op/\op<=12 then 1 else a.k)=kd:=by rw [if_neg (by omega)];omega
   exact ⟨a,a,rfl,rfl,ha,ha,λh=>by omega,λh=>by omega,λ_ _=>⟨ho,rfl,hi,.inl ⟨rfl,.inr e⟩⟩,key a a ha ha (λh=>by omega) (λh=>by omega) (λ_ _=>⟨ho,rfl,hi⟩)⟩
 ·obtain ⟨k,r4,r1,r2,r5,r6,r7,r8,r9⟩:=k4 e
  rw [r4]at hks
  obtain ⟨a,b,rfl,hk⟩:=two_of hks
  ·clear k1 k2 k3 k4 k5 k6 k7
   have ha:=hv.2 a List.mem_cons_self
   have hb:=hv.2 b (List.mem_cons_of_mem _ List.mem_cons_self)
   have ho:OpK op a.k:=by unfold OpK;omega
   have hi:(if 9<=op/\op<=12 then 1 else a.k)=kd:=by
    by_cases h9:9<=op/\op<=12
    ·rw [if_pos h9];omega
    ·rw [if_neg h9];omega
   exact ⟨a,b,rfl,rfl,ha,hb,λh=>by omega,λh=>by omega,λ_ _=>⟨ho,by omega,hi,.inr ⟨rfl,by omega⟩⟩,key a b ha hb (λh=>by omega) (λh=>by omega) (λ_ _=>⟨ho,by omega,hi⟩)⟩
theorem lit_TV {d:Nat} {op kd:Int} {nm fd:List UInt8} {ad n vk vi:Int} {vf:Nat} {args:List GX} (h:TX (d+1) (.mk op kd nm fd ad n vk vi vf args)) (h1:op=1):TV ⟨vk,vi,some vf⟩/\vk=kd:=by
 obtain ⟨q1,q2,q3,q4,q5,q6,q7,q8⟩:=h.2.2.2.2.1.1 h1
 refine ⟨⟨?_,λh=>by rw [q8 h]⟩,q1.symm⟩
 show InK vk vi
 unfold InK
 omega
theorem cell_TV {d:Nat} {op kd:Int} {nm fd:List UInt8} {ad n vk vi:Int} {vf:Nat} {args:List GX} (hm:MemOk mem) (h:TX (d+1) (.mk op kd nm fd ad n vk vi vf args)) (h2:op=2):TV (cell mem ad)/\(cell mem ad).k=kd/\0<=ad/\ad<21:=by
 have:=cells_k _ (h.2.2.2.2.1.2.1 h2)
 obtain ⟨p,q⟩:=hm.cell this.1 this.2.1
 exact ⟨p,by rw [q];exact this.2.2,this.1,this.2.1⟩
theorem evalX_TV (hm:MemOk mem):∀(d:Nat) (x:GX),TX d x->∀v,evalX mem x=.ok v->TV v/\v.k=x.kd
 |0,_,h,_,_=>h.elim
 |d+1,.mk op kd nm fd ad n vk vi vf args,h,v,hv=>by
  simp only [evalX]at hv
  split at hv
  ·rename_i e
   cases hv
   exact lit_TV h e
  ·rename_i n1
   split at hv
   ·rename_i e
    cases hv
    obtain ⟨p,q,_⟩:=cell_TV hm h e
    exact ⟨p,q⟩
   ·rename_i n2
    split at hv
    ·cases hv
    ·rename_i vs hvs
     have hV:=evalL_TV (evalX_TV hm d) args h.2.2.2.2.2 vs hvs
     obtain ⟨a,b,e1,e2,_,_,_,_,_,hf⟩:=madeX_TV hm h n1 n2 hV
     rw [e1,e2]at hv
     exact hf v hv
theorem convV_err {k e:Int} {v:FV} (h:convV k v=.error e):e=7:=by
 unfold convV at h
 split at h
 ·split at h<;>cases h
 ·split at h
  ·split at h
   ·cases h
   ·cases h;rfl
  ·cases h
theorem madeX_err {op kd ad n:Int} {a b:FV} {e:Int} (h:madeX mem op kd ad n a b=.error e):e=5\/e=6\/e=7:=by
 unfold madeX at h
 split at h
 ·split at h
  ·cases h;exact .inr (.inl rfl)
  ·cases h
 ·split at h
  ·exact .inr (.inr (convV_err h))
  ·split at h
   ·cases h
   ·rename_i hne
    cases h
    rcases opE_ok (op:=op) (k:=a.k) (b:=b)with h0|h0
    ·exact absurd h0 hne
    ·exact .inl h0
mutual
theorem evalX_err:∀(x:GX) (e:Int),evalX mem x=.error e->e=5\/e=6\/e=7
 | .mk op kd nm fd ad n vk vi vf args,e,h=>by
   simp only [evalX]at h
   split at h
   ·cases h
   ·split at h
    ·cases h
    ·split at h
     ·rename_i e' he
      cases h
      exact evalL_err args e he
     ·exact madeX_err h
theorem evalL_err:∀(l:List GX) (e:Int),evalL mem l=.error e->e=5\/e=6\/e=7
 |[],e,h=>by simp [evalL]at h
 |a::r,e,h=>by
  simp only [evalL]at h
  split at h
  ·rename_i e' he
   cases h
   exact evalX_err a e he
  ·split at h
   ·rename_i e' he
    cases h
    exact evalL_err r e he
   ·cases h
end
end
end Go.Proofs.YtjconanknjgpnaaGreat.vars
