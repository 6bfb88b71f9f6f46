/-
  The check of statements.
-/
import Derived.Test.YtjconanknjgpnaaV3
import Derived.Test.YtjconanknjgpnaaFA
import Derived.Test.YtjconanknjgpnaaSyQ
set_option maxRecDepth 100000
set_option linter.unusedVariables false
set_option linter.unusedSimpArgs false
namespace Go.Proofs.Ytjconanknjgpnaa.vars
open Go Go.Sx
def c78:VC:=⟨⟨[],[]⟩,[(88,[(some 10),none,none]),(89,[(some 10)])],[],0,true,[(80,ft80)]⟩
def t78:VT:=
 (.callF 80 ft80 [64,76,77,78,79,80,81,82,83,84,85] 92
 (.cons 11
 (.lt (.bin .neq 31 false true) [113,J 0] 114 none
 (.ite 114
 (.done (.tup [J 0,65,66,67,68,69,70,71,72,73,74,75,76,77,78,79,80,81,82,83,84,85,86,87,88,89,90,91,113]))
 (.callF 80 ft80 [64,66,67,68,69,70,71,72,73,74,75] 115
 (.cons 11
 (.lt (.bin .neq 31 false true) [136,J 0] 137 none
 (.ite 137
 (.done (.tup [J 0,65,66,67,68,69,70,71,72,73,74,75,76,77,78,79,80,81,82,83,84,85,86,87,88,89,90,91,136]))
 (.call 88 [64,68] 138 [(some 10),none,none]
 (.lt (.bin .neq 9 false true) [69,.str []] 150 none
 (.ite 150
 (.done (.tup [J 0,65,66,67,68,69,70,71,72,73,74,75,76,77,78,79,80,81,82,83,84,85,86,87,88,89,90,91,J 4]))
 (.lt (.bin .eql 3 false true) [139,J 1] 151 none
 (.ite 151
 (.done (.tup [J 0,65,66,67,68,69,70,71,72,73,74,75,76,77,78,79,80,81,82,83,84,85,86,87,88,89,90,91,J 13]))
 (.call 89 [.agg [103,104,105,106,107,108,109,110,111,112],127] 152 [(some 10)]
 (.lt (.bin .neq 3 false false) [153,127] 162 none
 (.ite 162
 (.done (.tup [J 0,65,66,67,68,69,70,71,72,73,74,75,76,77,78,79,80,81,82,83,84,85,86,87,88,89,90,91,J 4]))
 (.done (.tup [J 0,65,126,127,128,129,130,131,132,133,134,135,152,153,154,155,156,157,158,159,160,161,86,87,88,89,90,91,J 0]))))))))))))
 .nil))))
 .nil))
def c79:VC:=⟨⟨[],[]⟩,[(88,[(some 10),none,none]),(89,[(some 10)]),(46,[none])],[(0,[⟨[(4,.ptr 1 0),(3,.ptr 0 0),(9,.slx 3 1 0),(10,.slx 4 10 1),(11,.slx 2 0 0),(0,64),(7,102),(6,.ptr 2 0)],[(1,[J 0,J 0,J 0,.str [],.str [],J 0,J 0,J 0,J 0,.flt .f64 0,.nsl,J 0,J 0,.str [],.str [],J 0,J 0,J 0,J 0,.flt .f64 0,.nsl,.nsl,.nsl,.str [],J 0,J 0,.nsl]),(0,[65,66,67,68,69,70,71,72,73,74,75,76,77,78,79,80,81,82,83,84,85,86,87,88,89,90,91]),(2,[92,93,94,95,96,97,98,99,100,101])],5,3,[⟨3,1,0,9,none⟩,⟨4,10,1,10,none⟩],[],[]⟩]),(2,[⟨[(4,.ptr 1 0),(3,.ptr 0 0),(14,.slx 0 0 0),(9,.slx 3 1 1),(10,.slx 4 10 2),(6,.ptr 2 0),(7,102)],[(1,[J 0,J 0,J 0,.str [],.str [],J 0,J 0,J 0,J 0,.flt .f64 0,.nsl,J 0,J 0,.str [],.str [],J 0,J 0,J 0,J 0,.flt .f64 0,.nsl,.nsl,.nsl,.str [],J 0,J 0,.nsl]),(0,[65,66,67,68,69,70,71,72,73,74,75,76,77,78,79,80,81,82,83,84,85,86,87,88,89,90,91]),(2,[92,93,94,95,96,97,98,99,100,101])],5,3,[⟨3,1,1,9,none⟩,⟨4,10,2,10,none⟩],[],[]⟩])],0,true,[(80,ft80)]⟩
def t79:VT:=
 (.call 88 [64,88] 92 [(some 10),none,none]
 (.lt (.un .not) [103] 104 none
 (.ite 104
 (.done (.tup [J 0,65,66,67,68,69,70,71,72,73,74,75,76,77,78,79,80,81,82,83,84,85,86,87,88,89,90,91,J 3]))
 (.call 46 [94] 105 [none]
 (.lt (.bin .lss 3 false true) [105,J 2] 106 none
 (.ite 106
 (.done (.tup [J 0,65,66,67,68,69,70,71,72,73,74,75,76,77,78,79,80,81,82,83,84,85,86,87,88,89,90,91,J 4]))
 (.lt (.bin .eql 3 false true) [94,J 9] 107 none
 (.ite 107
 (.lt (.bin .eql 3 false true) [94,J 11] 108 none
 (.ite 108
 (.loop 109 0 [.vsl 1 1 [J 1],.nsl,J 0]
 (.cons 3
 (.lt (.len 38) [91] 112 none
 (.lt (.bin .lss 3 false false) [111,112] 113 none
 (.ite 113
 (.lt (.iaddr 38) [91,111] 114 none
 (.lt (.load 40) [114] 115 (some 10)
 (.callF 80 ft80 [64,115,116,117,118,119,120,121,122,123,124] 125
 (.cons 11
 (.lt (.bin .neq 31 false true) [146,J 0] 147 none
 (.ite 147
 (.done (.tup [J 0,65,66,67,68,69,70,71,72,73,74,75,76,77,78,79,80,81,82,83,84,85,86,87,88,89,90,91,146]))
 (.lt (.len 140) [109] 148 none
 (.lt (.bin .lss 3 false false) [111,148] 149 none
 (.ite 149
 (.lt .inb [109,111] 150 none
 (.lt (.ldx 3 1 0) [109,150] 151 none
 (.call 89 [.agg [136,137,138,139,140,141,142,143,144,145],151] 152 [(some 10)]
 (.lt (.app 10 112) [110,.agg [152,153,154,155,156,157,158,159,160,161]] 162 none
 (.lt (.bin .add 3 false true) [111,J 1] 163 none
 (.again 0 0 [109,162,163]))))))
 (.lt (.app 10 112) [110,.agg [136,137,138,139,140,141,142,143,144,145]] 150 none
 (.lt (.bin .add 3 false true) [111,J 1] 151 none
 (.again 0 0 [109,150,151]))))))))
 .nil))))
 (.lt (.len 38) [110] 114 none
 (.lt (.len 140) [109] 115 none
 (.lt (.bin .neq 3 false false) [114,115] 116 none
 (.ite 116
 (.done (.tup [J 0,65,66,67,68,69,70,71,72,73,74,75,76,77,78,79,80,81,82,83,84,85,86,87,88,89,90,91,J 4]))
 (.loop 117 0 [J 0,109,110]
 (.cons 3
 (.lt (.len 140) [118] 120 none
 (.lt (.bin .lss 3 false false) [117,120] 121 none
 (.ite 121
 (.lt .inb [119,117] 122 none
 (.lt (.ldx 3 10 1) [119,122] 123 none
 (.lt .inb [118,117] 124 none
 (.lt (.ldx 3 1 0) [118,124] 125 none
 (.lt (.bin .neq 3 false false) [123,125] 126 none
 (.ite 126
 (.done (.tup [J 0,65,66,67,68,69,70,71,72,73,74,75,76,77,78,79,80,81,82,83,84,85,86,87,88,89,90,91,J 4]))
 (.lt (.bin .add 3 false true) [117,J 1] 127 none
 (.again 1 0 [127,118,119]))))))))
 (.done (.tup [J 0,65,66,67,68,69,70,71,72,73,74,75,76,77,78,79,80,81,82,83,84,85,86,87,88,94,102,119,J 0])))))
 .nil)))))))))
 .nil))
 (.lt (.bin .eql 3 false true) [94,J 12] 109 none
 (.ite 109
 (.loop 110 0 [.vsl 1 1 [J 1],.nsl,J 0]
 (.cons 3
 (.lt (.len 38) [91] 113 none
 (.lt (.bin .lss 3 false false) [112,113] 114 none
 (.ite 114
 (.lt (.iaddr 38) [91,112] 115 none
 (.lt (.load 40) [115] 116 (some 10)
 (.callF 80 ft80 [64,116,117,118,119,120,121,122,123,124,125] 126
 (.cons 11
 (.lt (.bin .neq 31 false true) [147,J 0] 148 none
 (.ite 148
 (.done (.tup [J 0,65,66,67,68,69,70,71,72,73,74,75,76,77,78,79,80,81,82,83,84,85,86,87,88,89,90,91,147]))
 (.lt (.len 140) [110] 149 none
 (.lt (.bin .lss 3 false false) [112,149] 150 none
 (.ite 150
 (.lt .inb [110,112] 151 none
 (.lt (.ldx 3 1 0) [110,151] 152 none
 (.call 89 [.agg [137,138,139,140,141,142,143,144,145,146],152] 153 [(some 10)]
 (.lt (.app 10 112) [111,.agg [153,154,155,156,157,158,159,160,161,162]] 163 none
 (.lt (.bin .add 3 false true) [112,J 1] 164 none
 (.again 0 0 [110,163,164]))))))
 (.lt (.app 10 112) [111,.agg [137,138,139,140,141,142,143,144,145,146]] 151 none
 (.lt (.bin .add 3 false true) [112,J 1] 152 none
 (.again 0 0 [110,151,152]))))))))
 .nil))))
 (.lt (.len 38) [111] 115 none
 (.lt (.len 140) [110] 116 none
 (.lt (.bin .neq 3 false false) [115,116] 117 none
 (.ite 117
 (.done (.tup [J 0,65,66,67,68,69,70,71,72,73,74,75,76,77,78,79,80,81,82,83,84,85,86,87,88,89,90,91,J 4]))
 (.loop 118 0 [J 0,110,111]
 (.cons 3
 (.lt (.len 140) [119] 121 none
 (.lt (.bin .lss 3 false false) [118,121] 122 none
 (.ite 122
 (.lt .inb [120,118] 123 none
 (.lt (.ldx 3 10 1) [120,123] 124 none
 (.lt .inb [119,118] 125 none
 (.lt (.ldx 3 1 0) [119,125] 126 none
 (.lt (.bin .neq 3 false false) [124,126] 127 none
 (.ite 127
 (.done (.tup [J 0,65,66,67,68,69,70,71,72,73,74,75,76,77,78,79,80,81,82,83,84,85,86,87,88,89,90,91,J 4]))
 (.lt (.bin .add 3 false true) [118,J 1] 128 none
 (.again 1 0 [128,119,120]))))))))
 (.done (.tup [J 0,65,66,67,68,69,70,71,72,73,74,75,76,77,78,79,80,81,82,83,84,85,86,87,88,94,102,120,J 0])))))
 .nil)))))))))
 .nil))
 (.loop 110 0 [.vsl 2 1 [J 1,J 2],.nsl,J 0]
 (.cons 3
 (.lt (.len 38) [91] 113 none
 (.lt (.bin .lss 3 false false) [112,113] 114 none
 (.ite 114
 (.lt (.iaddr 38) [91,112] 115 none
 (.lt (.load 40) [115] 116 (some 10)
 (.callF 80 ft80 [64,116,117,118,119,120,121,122,123,124,125] 126
 (.cons 11
 (.lt (.bin .neq 31 false true) [147,J 0] 148 none
 (.ite 148
 (.done (.tup [J 0,65,66,67,68,69,70,71,72,73,74,75,76,77,78,79,80,81,82,83,84,85,86,87,88,89,90,91,147]))
 (.lt (.len 140) [110] 149 none
 (.lt (.bin .lss 3 false false) [112,149] 150 none
 (.ite 150
 (.lt .inb [110,112] 151 none
 (.lt (.ldx 3 1 0) [110,151] 152 none
 (.call 89 [.agg [137,138,139,140,141,142,143,144,145,146],152] 153 [(some 10)]
 (.lt (.app 10 112) [111,.agg [153,154,155,156,157,158,159,160,161,162]] 163 none
 (.lt (.bin .add 3 false true) [112,J 1] 164 none
 (.again 0 0 [110,163,164]))))))
 (.lt (.app 10 112) [111,.agg [137,138,139,140,141,142,143,144,145,146]] 151 none
 (.lt (.bin .add 3 false true) [112,J 1] 152 none
 (.again 0 0 [110,151,152]))))))))
 .nil))))
 (.lt (.len 38) [111] 115 none
 (.lt (.len 140) [110] 116 none
 (.lt (.bin .neq 3 false false) [115,116] 117 none
 (.ite 117
 (.done (.tup [J 0,65,66,67,68,69,70,71,72,73,74,75,76,77,78,79,80,81,82,83,84,85,86,87,88,89,90,91,J 4]))
 (.loop 118 0 [J 0,110,111]
 (.cons 3
 (.lt (.len 140) [119] 121 none
 (.lt (.bin .lss 3 false false) [118,121] 122 none
 (.ite 122
 (.lt .inb [120,118] 123 none
 (.lt (.ldx 3 10 1) [120,123] 124 none
 (.lt .inb [119,118] 125 none
 (.lt (.ldx 3 1 0) [119,125] 126 none
 (.lt (.bin .neq 3 false false) [124,126] 127 none
 (.ite 127
 (.done (.tup [J 0,65,66,67,68,69,70,71,72,73,74,75,76,77,78,79,80,81,82,83,84,85,86,87,88,89,90,91,J 4]))
 (.lt (.bin .add 3 false true) [118,J 1] 128 none
 (.again 1 0 [128,119,120]))))))))
 (.done (.tup [J 0,65,66,67,68,69,70,71,72,73,74,75,76,77,78,79,80,81,82,83,84,85,86,87,88,94,102,120,J 0])))))
 .nil)))))))))
 .nil))))))
 (.lt (.bin .eql 3 false true) [94,J 10] 108 none
 (.ite 108
 (.lt (.bin .eql 3 false true) [94,J 11] 109 none
 (.ite 109
 (.loop 110 0 [.vsl 1 1 [J 1],.nsl,J 0]
 (.cons 3
 (.lt (.len 38) [91] 113 none
 (.lt (.bin .lss 3 false false) [112,113] 114 none
 (.ite 114
 (.lt (.iaddr 38) [91,112] 115 none
 (.lt (.load 40) [115] 116 (some 10)
 (.callF 80 ft80 [64,116,117,118,119,120,121,122,123,124,125] 126
 (.cons 11
 (.lt (.bin .neq 31 false true) [147,J 0] 148 none
 (.ite 148
 (.done (.tup [J 0,65,66,67,68,69,70,71,72,73,74,75,76,77,78,79,80,81,82,83,84,85,86,87,88,89,90,91,147]))
 (.lt (.len 140) [110] 149 none
 (.lt (.bin .lss 3 false false) [112,149] 150 none
 (.ite 150
 (.lt .inb [110,112] 151 none
 (.lt (.ldx 3 1 0) [110,151] 152 none
 (.call 89 [.agg [137,138,139,140,141,142,143,144,145,146],152] 153 [(some 10)]
 (.lt (.app 10 112) [111,.agg [153,154,155,156,157,158,159,160,161,162]] 163 none
 (.lt (.bin .add 3 false true) [112,J 1] 164 none
 (.again 0 0 [110,163,164]))))))
 (.lt (.app 10 112) [111,.agg [137,138,139,140,141,142,143,144,145,146]] 151 none
 (.lt (.bin .add 3 false true) [112,J 1] 152 none
 (.again 0 0 [110,151,152]))))))))
 .nil))))
 (.lt (.len 38) [111] 115 none
 (.lt (.len 140) [110] 116 none
 (.lt (.bin .neq 3 false false) [115,116] 117 none
 (.ite 117
 (.done (.tup [J 0,65,66,67,68,69,70,71,72,73,74,75,76,77,78,79,80,81,82,83,84,85,86,87,88,89,90,91,J 4]))
 (.loop 118 0 [J 0,110,111]
 (.cons 3
 (.lt (.len 140) [119] 121 none
 (.lt (.bin .lss 3 false false) [118,121] 122 none
 (.ite 122
 (.lt .inb [120,118] 123 none
 (.lt (.ldx 3 10 1) [120,123] 124 none
 (.lt .inb [119,118] 125 none
 (.lt (.ldx 3 1 0) [119,125] 126 none
 (.lt (.bin .neq 3 false false) [124,126] 127 none
 (.ite 127
 (.done (.tup [J 0,65,66,67,68,69,70,71,72,73,74,75,76,77,78,79,80,81,82,83,84,85,86,87,88,89,90,91,J 4]))
 (.lt (.bin .add 3 false true) [118,J 1] 128 none
 (.again 1 0 [128,119,120]))))))))
 (.done (.tup [J 0,65,66,67,68,69,70,71,72,73,74,75,76,77,78,79,80,81,82,83,84,85,86,87,88,94,102,120,J 0])))))
 .nil)))))))))
 .nil))
 (.lt (.bin .eql 3 false true) [94,J 12] 110 none
 (.ite 110
 (.loop 111 0 [.vsl 1 1 [J 1],.nsl,J 0]
 (.cons 3
 (.lt (.len 38) [91] 114 none
 (.lt (.bin .lss 3 false false) [113,114] 115 none
 (.ite 115
 (.lt (.iaddr 38) [91,113] 116 none
 (.lt (.load 40) [116] 117 (some 10)
 (.callF 80 ft80 [64,117,118,119,120,121,122,123,124,125,126] 127
 (.cons 11
 (.lt (.bin .neq 31 false true) [148,J 0] 149 none
 (.ite 149
 (.done (.tup [J 0,65,66,67,68,69,70,71,72,73,74,75,76,77,78,79,80,81,82,83,84,85,86,87,88,89,90,91,148]))
 (.lt (.len 140) [111] 150 none
 (.lt (.bin .lss 3 false false) [113,150] 151 none
 (.ite 151
 (.lt .inb [111,113] 152 none
 (.lt (.ldx 3 1 0) [111,152] 153 none
 (.call 89 [.agg [138,139,140,141,142,143,144,145,146,147],153] 154 [(some 10)]
 (.lt (.app 10 112) [112,.agg [154,155,156,157,158,159,160,161,162,163]] 164 none
 (.lt (.bin .add 3 false true) [113,J 1] 165 none
 (.again 0 0 [111,164,165]))))))
 (.lt (.app 10 112) [112,.agg [138,139,140,141,142,143,144,145,146,147]] 152 none
 (.lt (.bin .add 3 false true) [113,J 1] 153 none
 (.again 0 0 [111,152,153]))))))))
 .nil))))
 (.lt (.len 38) [112] 116 none
 (.lt (.len 140) [111] 117 none
 (.lt (.bin .neq 3 false false) [116,117] 118 none
 (.ite 118
 (.done (.tup [J 0,65,66,67,68,69,70,71,72,73,74,75,76,77,78,79,80,81,82,83,84,85,86,87,88,89,90,91,J 4]))
 (.loop 119 0 [J 0,111,112]
 (.cons 3
 (.lt (.len 140) [120] 122 none
 (.lt (.bin .lss 3 false false) [119,122] 123 none
 (.ite 123
 (.lt .inb [121,119] 124 none
 (.lt (.ldx 3 10 1) [121,124] 125 none
 (.lt .inb [120,119] 126 none
 (.lt (.ldx 3 1 0) [120,126] 127 none
 (.lt (.bin .neq 3 false false) [125,127] 128 none
 (.ite 128
 (.done (.tup [J 0,65,66,67,68,69,70,71,72,73,74,75,76,77,78,79,80,81,82,83,84,85,86,87,88,89,90,91,J 4]))
 (.lt (.bin .add 3 false true) [119,J 1] 129 none
 (.again 1 0 [129,120,121]))))))))
 (.done (.tup [J 0,65,66,67,68,69,70,71,72,73,74,75,76,77,78,79,80,81,82,83,84,85,86,87,88,94,102,121,J 0])))))
 .nil)))))))))
 .nil))
 (.loop 111 0 [.vsl 2 1 [J 1,J 2],.nsl,J 0]
 (.cons 3
 (.lt (.len 38) [91] 114 none
 (.lt (.bin .lss 3 false false) [113,114] 115 none
 (.ite 115
 (.lt (.iaddr 38) [91,113] 116 none
 (.lt (.load 40) [116] 117 (some 10)
 (.callF 80 ft80 [64,117,118,119,120,121,122,123,124,125,126] 127
 (.cons 11
 (.lt (.bin .neq 31 false true) [148,J 0] 149 none
 (.ite 149
 (.done (.tup [J 0,65,66,67,68,69,70,71,72,73,74,75,76,77,78,79,80,81,82,83,84,85,86,87,88,89,90,91,148]))
 (.lt (.len 140) [111] 150 none
 (.lt (.bin .lss 3 false false) [113,150] 151 none
 (.ite 151
 (.lt .inb [111,113] 152 none
 (.lt (.ldx 3 1 0) [111,152] 153 none
 (.call 89 [.agg [138,139,140,141,142,143,144,145,146,147],153] 154 [(some 10)]
 (.lt (.app 10 112) [112,.agg [154,155,156,157,158,159,160,161,162,163]] 164 none
 (.lt (.bin .add 3 false true) [113,J 1] 165 none
 (.again 0 0 [111,164,165]))))))
 (.lt (.app 10 112) [112,.agg [138,139,140,141,142,143,144,145,146,147]] 152 none
 (.lt (.bin .add 3 false true) [113,J 1] 153 none
 (.again 0 0 [111,152,153]))))))))
 .nil))))
 (.lt (.len 38) [112] 116 none
 (.lt (.len 140) [111] 117 none
 (.lt (.bin .neq 3 false false) [116,117] 118 none
 (.ite 118
 (.done (.tup [J 0,65,66,67,68,69,70,71,72,73,74,75,76,77,78,79,80,81,82,83,84,85,86,87,88,89,90,91,J 4]))
 (.loop 119 0 [J 0,111,112]
 (.cons 3
 (.lt (.len 140) [120] 122 none
 (.lt (.bin .lss 3 false false) [119,122] 123 none
 (.ite 123
 (.lt .inb [121,119] 124 none
 (.lt (.ldx 3 10 1) [121,124] 125 none
 (.lt .inb [120,119] 126 none
 (.lt (.ldx 3 1 0) [120,126] 127 none
 (.lt (.bin .neq 3 false false) [125,127] 128 none
 (.ite 128
 (.done (.tup [J 0,65,66,67,68,69,70,71,72,73,74,75,76,77,78,79,80,81,82,83,84,85,86,87,88,89,90,91,J 4]))
 (.lt (.bin .add 3 false true) [119,J 1] 129 none
 (.again 1 0 [129,120,121]))))))))
 (.done (.tup [J 0,65,66,67,68,69,70,71,72,73,74,75,76,77,78,79,80,81,82,83,84,85,86,87,88,94,102,121,J 0])))))
 .nil)))))))))
 .nil))))))
 (.lt (.bin .eql 3 false true) [94,J 11] 109 none
 (.ite 109
 (.loop 110 0 [.vsl 1 1 [J 1],.nsl,J 0]
 (.cons 3
 (.lt (.len 38) [91] 113 none
 (.lt (.bin .lss 3 false false) [112,113] 114 none
 (.ite 114
 (.lt (.iaddr 38) [91,112] 115 none
 (.lt (.load 40) [115] 116 (some 10)
 (.callF 80 ft80 [64,116,117,118,119,120,121,122,123,124,125] 126
 (.cons 11
 (.lt (.bin .neq 31 false true) [147,J 0] 148 none
 (.ite 148
 (.done (.tup [J 0,65,66,67,68,69,70,71,72,73,74,75,76,77,78,79,80,81,82,83,84,85,86,87,88,89,90,91,147]))
 (.lt (.len 140) [110] 149 none
 (.lt (.bin .lss 3 false false) [112,149] 150 none
 (.ite 150
 (.lt .inb [110,112] 151 none
 (.lt (.ldx 3 1 0) [110,151] 152 none
 (.call 89 [.agg [137,138,139,140,141,142,143,144,145,146],152] 153 [(some 10)]
 (.lt (.app 10 112) [111,.agg [153,154,155,156,157,158,159,160,161,162]] 163 none
 (.lt (.bin .add 3 false true) [112,J 1] 164 none
 (.again 0 0 [110,163,164]))))))
 (.lt (.app 10 112) [111,.agg [137,138,139,140,141,142,143,144,145,146]] 151 none
 (.lt (.bin .add 3 false true) [112,J 1] 152 none
 (.again 0 0 [110,151,152]))))))))
 .nil))))
 (.lt (.len 38) [111] 115 none
 (.lt (.len 140) [110] 116 none
 (.lt (.bin .neq 3 false false) [115,116] 117 none
 (.ite 117
 (.done (.tup [J 0,65,66,67,68,69,70,71,72,73,74,75,76,77,78,79,80,81,82,83,84,85,86,87,88,89,90,91,J 4]))
 (.loop 118 0 [J 0,110,111]
 (.cons 3
 (.lt (.len 140) [119] 121 none
 (.lt (.bin .lss 3 false false) [118,121] 122 none
 (.ite 122
 (.lt .inb [120,118] 123 none
 (.lt (.ldx 3 10 1) [120,123] 124 none
 (.lt .inb [119,118] 125 none
 (.lt (.ldx 3 1 0) [119,125] 126 none
 (.lt (.bin .neq 3 false false) [124,126] 127 none
 (.ite 127
 (.done (.tup [J 0,65,66,67,68,69,70,71,72,73,74,75,76,77,78,79,80,81,82,83,84,85,86,87,88,89,90,91,J 4]))
 (.lt (.bin .add 3 false true) [118,J 1] 128 none
 (.again 1 0 [128,119,120]))))))))
 (.done (.tup [J 0,65,66,67,68,69,70,71,72,73,74,75,76,77,78,79,80,81,82,83,84,85,86,87,88,94,102,120,J 0])))))
 .nil)))))))))
 .nil))
 (.lt (.bin .eql 3 false true) [94,J 12] 110 none
 (.ite 110
 (.loop 111 0 [.vsl 1 1 [J 1],.nsl,J 0]
 (.cons 3
 (.lt (.len 38) [91] 114 none
 (.lt (.bin .lss 3 false false) [113,114] 115 none
 (.ite 115
 (.lt (.iaddr 38) [91,113] 116 none
 (.lt (.load 40) [116] 117 (some 10)
 (.callF 80 ft80 [64,117,118,119,120,121,122,123,124,125,126] 127
 (.cons 11
 (.lt (.bin .neq 31 false true) [148,J 0] 149 none
 (.ite 149
 (.done (.tup [J 0,65,66,67,68,69,70,71,72,73,74,75,76,77,78,79,80,81,82,83,84,85,86,87,88,89,90,91,148]))
 (.lt (.len 140) [111] 150 none
 (.lt (.bin .lss 3 false false) [113,150] 151 none
 (.ite 151
 (.lt .inb [111,113] 152 none
 (.lt (.ldx 3 1 0) [111,152] 153 none
 (.call 89 [.agg [138,139,140,141,142,143,144,145,146,147],153] 154 [(some 10)]
 (.lt (.app 10 112) [112,.agg [154,155,156,157,158,159,160,161,162,163]] 164 none
 (.lt (.bin .add 3 false true) [113,J 1] 165 none
 (.again 0 0 [111,164,165]))))))
 (.lt (.app 10 112) [112,.agg [138,139,140,141,142,143,144,145,146,147]] 152 none
 (.lt (.bin .add 3 false true) [113,J 1] 153 none
 (.again 0 0 [111,152,153]))))))))
 .nil))))
 (.lt (.len 38) [112] 116 none
 (.lt (.len 140) [111] 117 none
 (.lt (.bin .neq 3 false false) [116,117] 118 none
 (.ite 118
 (.done (.tup [J 0,65,66,67,68,69,70,71,72,73,74,75,76,77,78,79,80,81,82,83,84,85,86,87,88,89,90,91,J 4]))
 (.loop 119 0 [J 0,111,112]
 (.cons 3
 (.lt (.len 140) [120] 122 none
 (.lt (.bin .lss 3 false false) [119,122] 123 none
 (.ite 123
 (.lt .inb [121,119] 124 none
 (.lt (.ldx 3 10 1) [121,124] 125 none
 (.lt .inb [120,119] 126 none
 (.lt (.ldx 3 1 0) [120,126] 127 none
 (.lt (.bin .neq 3 false false) [125,127] 128 none
 (.ite 128
 (.done (.tup [J 0,65,66,67,68,69,70,71,72,73,74,75,76,77,78,79,80,81,82,83,84,85,86,87,88,89,90,91,J 4]))
 (.lt (.bin .add 3 false true) [119,J 1] 129 none
 (.again 1 0 [129,120,121]))))))))
 (.done (.tup [J 0,65,66,67,68,69,70,71,72,73,74,75,76,77,78,79,80,81,82,83,84,85,86,87,88,94,102,121,J 0])))))
 .nil)))))))))
 .nil))
 (.loop 111 0 [.vsl 2 1 [J 1,J 4],.nsl,J 0]
 (.cons 3
 (.lt (.len 38) [91] 114 none
 (.lt (.bin .lss 3 false false) [113,114] 115 none
 (.ite 115
 (.lt (.iaddr 38) [91,113] 116 none
 (.lt (.load 40) [116] 117 (some 10)
 (.callF 80 ft80 [64,117,118,119,120,121,122,123,124,125,126] 127
 (.cons 11
 (.lt (.bin .neq 31 false true) [148,J 0] 149 none
 (.ite 149
 (.done (.tup [J 0,65,66,67,68,69,70,71,72,73,74,75,76,77,78,79,80,81,82,83,84,85,86,87,88,89,90,91,148]))
 (.lt (.len 140) [111] 150 none
 (.lt (.bin .lss 3 false false) [113,150] 151 none
 (.ite 151
 (.lt .inb [111,113] 152 none
 (.lt (.ldx 3 1 0) [111,152] 153 none
 (.call 89 [.agg [138,139,140,141,142,143,144,145,146,147],153] 154 [(some 10)]
 (.lt (.app 10 112) [112,.agg [154,155,156,157,158,159,160,161,162,163]] 164 none
 (.lt (.bin .add 3 false true) [113,J 1] 165 none
 (.again 0 0 [111,164,165]))))))
 (.lt (.app 10 112) [112,.agg [138,139,140,141,142,143,144,145,146,147]] 152 none
 (.lt (.bin .add 3 false true) [113,J 1] 153 none
 (.again 0 0 [111,152,153]))))))))
 .nil))))
 (.lt (.len 38) [112] 116 none
 (.lt (.len 140) [111] 117 none
 (.lt (.bin .neq 3 false false) [116,117] 118 none
 (.ite 118
 (.done (.tup [J 0,65,66,67,68,69,70,71,72,73,74,75,76,77,78,79,80,81,82,83,84,85,86,87,88,89,90,91,J 4]))
 (.loop 119 0 [J 0,111,112]
 (.cons 3
 (.lt (.len 140) [120] 122 none
 (.lt (.bin .lss 3 false false) [119,122] 123 none
 (.ite 123
 (.lt .inb [121,119] 124 none
 (.lt (.ldx 3 10 1) [121,124] 125 none
 (.lt .inb [120,119] 126 none
 (.lt (.ldx 3 1 0) [120,126] 127 none
 (.lt (.bin .neq 3 false false) [125,127] 128 none
 (.ite 128
 (.done (.tup [J 0,65,66,67,68,69,70,71,72,73,74,75,76,77,78,79,80,81,82,83,84,85,86,87,88,89,90,91,J 4]))
 (.lt (.bin .add 3 false true) [119,J 1] 129 none
 (.again 1 0 [129,120,121]))))))))
 (.done (.tup [J 0,65,66,67,68,69,70,71,72,73,74,75,76,77,78,79,80,81,82,83,84,85,86,87,88,94,102,121,J 0])))))
 .nil)))))))))
 .nil))))))))))))))))
def c63:VC:=⟨⟨[],[]⟩,[],[],0,true,[(80,ft80),(78,ft78),(79,ft79),(36,ft36)]⟩
def t63:VT:=
 (.lt (.bin .eql 3 false true) [65,J 1] 92 none
 (.ite 92
 (.callF 78 ft78 [64,65,66,67,68,69,70,71,72,73,74,75,76,77,78,79,80,81,82,83,84,85,86,87,88,89,90,91] 93
 (.cons 28
 (.done (.tup [J 0,121,122,123,124,125,126,127,128,129,130,131,132,133,134,135,136,137,138,139,140,141,142,143,144,145,146,147,148]))
 .nil))
 (.lt (.bin .eql 3 false true) [65,J 4] 93 none
 (.ite 93
 (.callF 79 ft79 [64,65,66,67,68,69,70,71,72,73,74,75,76,77,78,79,80,81,82,83,84,85,86,87,88,89,90,91] 94
 (.cons 28
 (.done (.tup [J 0,122,123,124,125,126,127,128,129,130,131,132,133,134,135,136,137,138,139,140,141,142,143,144,145,146,147,148,149]))
 .nil))
 (.callF 80 ft80 [64,76,77,78,79,80,81,82,83,84,85] 94
 (.cons 11
 (.lt (.bin .neq 31 false true) [115,J 0] 116 none
 (.ite 116
 (.done (.tup [J 0,65,66,67,68,69,70,71,72,73,74,75,76,77,78,79,80,81,82,83,84,85,86,87,88,89,90,91,115]))
 (.lt (.bin .neq 3 false true) [106,J 1] 117 none
 (.ite 117
 (.done (.tup [J 0,65,66,67,68,69,70,71,72,73,74,75,76,77,78,79,80,81,82,83,84,85,86,87,88,89,90,91,J 4]))
 (.callF 36 ft36 [64,86] 118
 (.cons 2
 (.lt (.bin .neq 31 false true) [121,J 0] 122 none
 (.ite 122
 (.done (.tup [J 0,65,66,67,68,69,70,71,72,73,74,75,105,106,107,108,109,110,111,112,113,114,120,87,88,89,90,91,121]))
 (.callF 36 ft36 [64,87] 123
 (.cons 2
 (.done (.tup [J 0,65,66,67,68,69,70,71,72,73,74,75,105,106,107,108,109,110,111,112,113,114,120,125,88,89,90,91,126]))
 .nil))))
 .nil))))))
 .nil))))))
def c36:VC:=⟨⟨[],[]⟩,[],[(0,[⟨[(6,.slx 0 27 0),(7,.slx 1 0 0),(1,65),(0,64)],[],1,2,[⟨0,27,0,6,none⟩],[],[]⟩])],0,true,[(63,ft63)]⟩
def t36:VT:=
 (.loop 66 0 [.nsl,J 0]
 (.cons 2
 (.lt (.len 25) [65] 68 none
 (.lt (.bin .lss 3 false false) [67,68] 69 none
 (.ite 69
 (.lt (.iaddr 25) [65,67] 70 none
 (.lt (.load 42) [70] 71 (some 27)
 (.callF 63 ft63 [64,71,72,73,74,75,76,77,78,79,80,81,82,83,84,85,86,87,88,89,90,91,92,93,94,95,96,97] 98
 (.cons 28
 (.lt (.bin .neq 31 false true) [153,J 0] 154 none
 (.ite 154
 (.done (.tup [J 0,.nsl,153]))
 (.lt (.app 27 336) [66,.agg [126,127,128,129,130,131,132,133,134,135,136,137,138,139,140,141,142,143,144,145,146,147,148,149,150,151,152]] 155 none
 (.lt (.bin .add 3 false true) [67,J 1] 156 none
 (.again 0 0 [155,156])))))
 .nil))))
 (.done (.tup [J 0,66,J 0])))))
 .nil))
theorem k88_any {nm fd:List UInt8} (h:(nm,fd)∈loads\/nm=[107]):∃(s:List UInt8) (r k z a b:Int) (c:Nat) (d e:Int) (f:Nat) (g:Int),Pure Try.prog 88 [VARS,.str nm] (.tup [.agg [.str s,.int .i64 r,.int .i64 k,.int .i64 z,.int .i64 a,.int .i64 b,.flt .f64 c,.int .i64 d,.int .i64 e,.flt .f64 f],.int .i64 g,.bool true]):=by
 rcases h with h|rfl
 ·simp only [loads,List.mem_cons,Prod.mk.injEq,List.not_mem_nil,or_false]at h
  rcases h with ⟨rfl,rfl⟩|⟨rfl,rfl⟩|⟨rfl,rfl⟩|⟨rfl,rfl⟩|⟨rfl,rfl⟩|⟨rfl,rfl⟩|⟨rfl,rfl⟩|⟨rfl,rfl⟩|⟨rfl,rfl⟩|⟨rfl,rfl⟩|⟨rfl,rfl⟩
  ·exact ⟨_,_,_,_,_,_,_,_,_,_,_,k88_98⟩
  ·exact ⟨_,_,_,_,_,_,_,_,_,_,_,k88_113⟩
  ·exact ⟨_,_,_,_,_,_,_,_,_,_,_,k88_116_109⟩
  ·exact ⟨_,_,_,_,_,_,_,_,_,_,_,k88_97⟩
  ·exact ⟨_,_,_,_,_,_,_,_,_,_,_,k88_120⟩
  ·exact ⟨_,_,_,_,_,_,_,_,_,_,_,k88_111⟩
  ·exact ⟨_,_,_,_,_,_,_,_,_,_,_,k88_99⟩
  ·exact ⟨_,_,_,_,_,_,_,_,_,_,_,k88_121⟩
  ·exact ⟨_,_,_,_,_,_,_,_,_,_,_,k88_116_109⟩
  ·exact ⟨_,_,_,_,_,_,_,_,_,_,_,k88_119⟩
  ·exact ⟨_,_,_,_,_,_,_,_,_,_,_,k88_122⟩
 ·exact ⟨_,_,_,_,_,_,_,_,_,_,_,k88_107⟩
def Blk (kd ad:Int) (ks:List Int):Prop:=(kd=6/\ad=12/\ks=[1,4])\/(kd=9/\ad=16/\ks=[1,2])\/(kd=11/\ad=19/\ks=[1])
def TS:Nat->GS->Prop
 |0,_=>False
 |d+1,.mk op to e thn els nm kd ad args=>
  (op=1/\TX 5 to/\(to.op=2\/to.op=3)/\TX 5 e/\e.kd=to.kd)\/
  ((op=2\/op=3)/\TX 5 e/\e.kd=1/\thn.length<=5/\els.length<=5/\(∀s∈thn,TS d s)/\∀s∈els,TS d s)\/
  (op=4/\Blk kd ad (args.map GX.kd)/\∀a∈args,TX 5 a)
def RT (d:Nat):Nat->List AV->Prop:=λ_ ws=>∃(y:GS) (e:Int),ws=encS y++[.int .i64 e]/\(e=0->TS d y)
def RU (d n:Nat):Nat->List AV->Prop:=λ_ ws=>∃(y:List GS) (e:Int),ws=[encB y,.int .i64 e]/\(e=0->y.length=n/\∀s∈y,TS d s)
theorem finT {d j:Nat} {y:GS} {e:Int} {hv:List AV} {Y:Sy} {L:List (Nat->List AV->Prop)} (h:denL Y.v hv=encS y++[.int .i64 e]) (hw:e=0->TS d y):VOK Try.prog (QF (RT d)) L Y (.done (.tup (.int .i64 (.ofNat j)::hv))):=
 VOK_fin (by rw [h];exact okSn y e) ⟨y,e,h,hw⟩
theorem okVX (x:GX):okL (VARS::encX x)=true:=by rw [okL_cons];exact okX x
theorem okVS (x:GS):okL (VARS::encS x)=true:=by rw [okL_cons];exact okS x
theorem p78 (d:Nat) (to e:GX) (thn els:List GS) (nm:List UInt8) (kd ad:Int) (args:List GX) (ht:WX 5 to) (ho:to.op=2\/to.op=3) (he:WX 5 e):
  CF Try.prog 78 ft78 (VARS::encS (.mk 1 to e thn els nm kd ad args)) (RT (d+1)):=by
 have h1:=p80 5 to ht
 have h2:=p80 5 e he
 obtain ⟨to1,to2,to3,to4,to5,to6,to7,to8,to9,to10⟩:=to
 obtain ⟨e1,e2,e3,e4,e5,e6,e7,e8,e9,e10⟩:=e
 refine cf_tree (c:=c78) (n:=300) (t:=t78) mo ov rfl (λY _=>known0 _) (by kernel_rfl) λY hf hg=>?_
 unfold t78
 refine callF' h2 rfl (okVX _) ⟨?_,trivial⟩
 rintro ws ⟨⟨y1,y2,y3,y4,y5,y6,y7,y8,y9,y10⟩,er,rfl,hy⟩
 (refine it_c rfl rfl (λh=>?_) (λh=>?_)<;>simp only [Cmp,Decidable.not_not,Int.not_lt,Int.not_le]at h<;>try (exfalso;first|exact h trivial|omega))
 ·(exact finT (y:=.mk _ (.mk _ _ _ _ _ _ _ _ _ _) (.mk _ _ _ _ _ _ _ _ _ _) _ _ _ _ _ _) rfl (λhe=>absurd he (by first|assumption|decide)))
 have hy:=(hy h).1
 refine callF' h1 rfl (okVX _) ⟨?_,trivial⟩
 rintro ws ⟨⟨z1,z2,z3,z4,z5,z6,z7,z8,z9,z10⟩,er2,rfl,hz⟩
 (refine it_c rfl rfl (λh=>?_) (λh=>?_)<;>simp only [Cmp,Decidable.not_not,Int.not_lt,Int.not_le]at h<;>try (exfalso;first|exact h trivial|omega))
 ·(exact finT (y:=.mk _ (.mk _ _ _ _ _ _ _ _ _ _) (.mk _ _ _ _ _ _ _ _ _ _) _ _ _ _ _ _) rfl (λhe=>absurd he (by first|assumption|decide)))
 have hz:=hz h
 obtain ⟨s,r,k,z,a,b,c,d',e',f,g,hp⟩:=k88_any (nm:=to3) (fd:=to4) (by
  have ht':Nod to1 to2 to3 to4 to7 to8 to9:=ht.2.2.1
  rcases ho with ho|ho
  ·exact .inl (ht'.2.1 ho)
  ·exact .inr (ht'.2.2.1 ho))
 refine VOK_call hp rfl rfl ?_
 refine VOK_lt (run_nes ..) rfl (VOK_ite rfl (λh=>?_) (λh=>?_))
 ·(exact finT (y:=.mk _ (.mk _ _ _ _ _ _ _ _ _ _) (.mk _ _ _ _ _ _ _ _ _ _) _ _ _ _ _ _) rfl (λhe=>absurd he (by first|assumption|decide)))
 (refine it_c rfl rfl (λh=>?_) (λh=>?_)<;>simp only [Cmp,Decidable.not_not,Int.not_lt,Int.not_le]at h<;>try (exfalso;first|exact h trivial|omega))
 ·(exact finT (y:=.mk _ (.mk _ _ _ _ _ _ _ _ _ _) (.mk _ _ _ _ _ _ _ _ _ _) _ _ _ _ _ _) rfl (λhe=>absurd he (by first|assumption|decide)))
 obtain ⟨⟨yo1,yk1,ynm1,yfd1,yad1,yn1,yvk1,yvi1,yvf1,ya1⟩,hp1,hy1⟩:=p89 _ z2 hy
 refine VOK_call hp1 rfl (okXe _) ?_
 (refine it_c rfl rfl (λh=>?_) (λh=>?_)<;>simp only [Cmp,Decidable.not_not,Int.not_lt,Int.not_le]at h<;>try (exfalso;first|exact h trivial|omega))
 ·(exact finT (y:=.mk _ (.mk _ _ _ _ _ _ _ _ _ _) (.mk _ _ _ _ _ _ _ _ _ _) _ _ _ _ _ _) rfl (λhe=>absurd he (by first|assumption|decide)))
 ·exact finT (y:=.mk 1 (.mk _ _ _ _ _ _ _ _ _ _) (.mk _ _ _ _ _ _ _ _ _ _) _ _ _ _ _ _) rfl (λ_=>.inl ⟨rfl,hz.1,by rw [hz.2];exact ho,hy1,h⟩)
theorem addX {d:Nat} {acc:List GX} {y:GX} (h:∀a∈acc,TX d a) (hy:TX d y):∀a∈acc++[y],TX d a:=λa ha=>by
 rcases List.mem_append.1 ha with ha|ha
 ·exact h a ha
 ·cases List.mem_singleton.1 ha;exact hy
theorem p79 (d:Nat) (to e:GX) (thn els:List GS) (nm:List UInt8) (kd ad:Int) (args:List GX) (hn:nm=[116,109]\/nm=[99]\/nm=[101]) (hl:args.length<=2) (hW:∀a∈args,WX 5 a):
  CF Try.prog 79 ft79 (VARS::encS (.mk 4 to e thn els nm kd ad args)) (RT (d+1)):=by
 obtain ⟨to1,to2,to3,to4,to5,to6,to7,to8,to9,to10⟩:=to
 obtain ⟨e1,e2,e3,e4,e5,e6,e7,e8,e9,e10⟩:=e
 refine cf_tree (c:=c79) (n:=300) (t:=t79) mo ov rfl (λY _=>known0 _) (by kernel_rfl) λY hf hg=>?_
 unfold t79
 rcases hn with rfl|rfl|rfl
 ·refine VOK_call k88_116_109 rfl rfl (VOK_lt rfl rfl (VOK_ite rfl (λh=>by cases h) (λ_=>VOK_call k46_6 rfl rfl ?_)))
  (refine it_c rfl rfl (λh=>?_) (λh=>?_)<;>simp only [Cmp,Decidable.not_not,Int.not_lt,Int.not_le]at h<;>try (exfalso;first|exact h trivial|omega));(refine it_c rfl rfl (λh=>?_) (λh=>?_)<;>simp only [Cmp,Decidable.not_not,Int.not_lt,Int.not_le]at h<;>try (exfalso;first|exact h trivial|omega));(refine it_c rfl rfl (λh=>?_) (λh=>?_)<;>simp only [Cmp,Decidable.not_not,Int.not_lt,Int.not_le]at h<;>try (exfalso;first|exact h trivial|omega));(refine it_c rfl rfl (λh=>?_) (λh=>?_)<;>simp only [Cmp,Decidable.not_not,Int.not_lt,Int.not_le]at h<;>try (exfalso;first|exact h trivial|omega));(refine it_c rfl rfl (λh=>?_) (λh=>?_)<;>simp only [Cmp,Decidable.not_not,Int.not_lt,Int.not_le]at h<;>try (exfalso;first|exact h trivial|omega))
  (
   refine VOK_loop (ι:=List GX×Nat) (λs=>[(.vsl 2 1 [.int .i64 1,.int .i64 4]),encA s.1,.int .i64 (s.2:Int)]) (λs=>s.1.length=s.2/\s.2<=args.length/\∀a∈s.1,TX 5 a) (λs=>args.length-s.2) ([],0) ⟨rfl,Nat.zero_le _,λa ha=>(List.not_mem_nil ha).elim⟩ rfl (λs _=>by simp only [okL,okC,okA]) (λs s' _ _ h=>by simp at h;omega) (λs hs=>?_)
   obtain ⟨acc,i⟩:=s
   obtain ⟨h1,h2,h3⟩:=hs
   simp only at h1 h2 h3⊢
   refine VOK_lt (run_len38 args) rfl ?_
   (refine it_c rfl rfl (λh=>?_) (λh=>?_)<;>simp only [Cmp,Decidable.not_not,Int.not_lt,Int.not_le]at h<;>try (exfalso;first|exact h trivial|omega))
   ·have hi:i<args.length:=by omega
    have hld:=run_ld40 args hi
    have hz:=p80 5 args[i] (hW _ (List.getElem_mem hi))
    rcases hzz:args[i]with ⟨zo,zk,znm,zfd,zad,zn,zvk,zvi,zvf,za⟩
    rw [hzz]at hld hz
    refine VOK_lt (run_ia38 args hi) (encL_ok okX _) (VOK_ltN hld rfl (okX _) ?_)
    refine callF' hz rfl (okVX _) ⟨?_,trivial⟩
    rintro ws ⟨⟨yo,yk,ynm,yfd,yad,yn,yvk,yvi,yvf,ya⟩,e,rfl,hy⟩
    (refine it_c rfl rfl (λh=>?_) (λh=>?_)<;>simp only [Cmp,Decidable.not_not,Int.not_lt,Int.not_le]at h<;>try (exfalso;first|exact h trivial|omega))
    ·(exact finT (y:=.mk _ (.mk _ _ _ _ _ _ _ _ _ _) (.mk _ _ _ _ _ _ _ _ _ _) _ _ _ _ _ _) rfl (λhe=>absurd he (by first|assumption|decide)))
    have hy:=(hy h).1
    refine VOK_lt (r:=.int .i64 2) rfl rfl ?_
    (refine it_c rfl rfl (λh=>?_) (λh=>?_)<;>simp only [Cmp,Decidable.not_not,Int.not_lt,Int.not_le]at h<;>try (exfalso;first|exact h trivial|omega))
    all_goals first
     |(have hi2:i=0\/i=1:=by omega
       rcases hi2 with rfl|rfl
       all_goals try (exfalso;omega)
       all_goals
        refine VOK_lt rfl rfl (VOK_lt rfl rfl ?_)
        obtain ⟨⟨yo1,yk1,ynm1,yfd1,yad1,yn1,yvk1,yvi1,yvf1,ya1⟩,hp1,hy1⟩:=p89 _ _ hy
        refine VOK_call hp1 rfl (okXe _) ?_
        refine VOK_lt (run_app10 acc (.mk yo1 yk1 ynm1 yfd1 yad1 yn1 yvk1 yvi1 yvf1 ya1) (by omega)) (okA _) (VOK_lt (add_c (by omega) (by omega)) rfl (VOK_again rfl ⟨(acc++[_],_),⟨by rw [List.length_append,h1];rfl,hi,addX h3 hy1⟩,rfl,by simp only;omega⟩)))
     |exact VOK_lt (run_app10 acc (.mk yo yk ynm yfd yad yn yvk yvi yvf ya) (by omega)) (okA _) (VOK_lt (add_c (by omega) (by omega)) rfl (VOK_again rfl ⟨(acc++[_],i+1),⟨by rw [List.length_append,h1];rfl,hi,addX h3 hy⟩,rfl,by simp only;omega⟩))
   have hi:i=args.length:=by omega
   subst hi
   refine VOK_lt (run_len38 acc) rfl (VOK_lt (r:=.int .i64 2) rfl rfl ?_))
  (refine it_c rfl rfl (λh=>?_) (λh=>?_)<;>simp only [Cmp,Decidable.not_not,Int.not_lt,Int.not_le]at h<;>try (exfalso;first|exact h trivial|omega))
  ·(exact finT (y:=.mk _ (.mk _ _ _ _ _ _ _ _ _ _) (.mk _ _ _ _ _ _ _ _ _ _) _ _ _ _ _ _) rfl (λhe=>absurd he (by first|assumption|decide)))
  have ha:acc.length=2:=by
   have h':(acc.length:Int)=2:=h
   omega
  obtain ⟨y,z,rfl⟩:∃y z,acc=[y,z]:=by
   rcases acc with _|⟨y,_|⟨z,_|⟨w,t⟩⟩⟩<;>simp at ha
   exact ⟨y,z,rfl⟩
  obtain ⟨y1,y2,y3,y4,y5,y6,y7,y8,y9,y10⟩:=y
  obtain ⟨z1,z2,z3,z4,z5,z6,z7,z8,z9,z10⟩:=z
  refine VOK_loop (ι:=Nat) (λi=>[.int .i64 (i:Int),.vsl 2 1 [.int .i64 1,.int .i64 4],encA [.mk y1 y2 y3 y4 y5 y6 y7 y8 y9 y10,.mk z1 z2 z3 z4 z5 z6 z7 z8 z9 z10]]) (λi=>i<=2/\(1<=i->y2=1)/\(2<=i->z2=4)) (λi=>2-i) 0 ⟨by decide,λh=>by omega,λh=>by omega⟩ rfl (λs _=>by simp only [okL,okC,okA]) (λs s' _ _ h=>by simp at h;omega) (λi hi=>?_)
  obtain ⟨i1,i2,i3⟩:=hi
  refine VOK_lt (r:=.int .i64 2) rfl rfl ?_
  (refine it_c rfl rfl (λh=>?_) (λh=>?_)<;>simp only [Cmp,Decidable.not_not,Int.not_lt,Int.not_le]at h<;>try (exfalso;first|exact h trivial|omega))
  ·have hi2:i=0\/i=1:=by omega
   rcases hi2 with rfl|rfl
   ·refine VOK_lt (r:=.int .i64 0) rfl rfl (VOK_lt (r:=.int .i64 y2) rfl rfl (VOK_lt (r:=.int .i64 0) rfl rfl (VOK_lt (r:=.int .i64 1) rfl rfl ?_)))
    (refine it_c rfl rfl (λh=>?_) (λh=>?_)<;>simp only [Cmp,Decidable.not_not,Int.not_lt,Int.not_le]at h<;>try (exfalso;first|exact h trivial|omega))
    ·(exact finT (y:=.mk _ (.mk _ _ _ _ _ _ _ _ _ _) (.mk _ _ _ _ _ _ _ _ _ _) _ _ _ _ _ _) rfl (λhe=>absurd he (by first|assumption|decide)))
    ·exact VOK_lt (add_c (by omega) (by omega)) rfl (VOK_again rfl ⟨1,⟨by decide,λ_=>h,λh=>by omega⟩,rfl,by decide⟩)
   ·refine VOK_lt (r:=.int .i64 1) rfl rfl (VOK_lt (r:=.int .i64 z2) rfl rfl (VOK_lt (r:=.int .i64 1) rfl rfl (VOK_lt (r:=.int .i64 4) rfl rfl ?_)))
    (refine it_c rfl rfl (λh=>?_) (λh=>?_)<;>simp only [Cmp,Decidable.not_not,Int.not_lt,Int.not_le]at h<;>try (exfalso;first|exact h trivial|omega))
    ·(exact finT (y:=.mk _ (.mk _ _ _ _ _ _ _ _ _ _) (.mk _ _ _ _ _ _ _ _ _ _) _ _ _ _ _ _) rfl (λhe=>absurd he (by first|assumption|decide)))
    ·exact VOK_lt (add_c (by omega) (by omega)) rfl (VOK_again rfl ⟨2,⟨by decide,λ_=>i2 (by decide),λ_=>h⟩,rfl,by decide⟩)
  ·refine finT (y:=.mk 4 (.mk _ _ _ _ _ _ _ _ _ _) (.mk _ _ _ _ _ _ _ _ _ _) _ _ _ _ _ [.mk _ _ _ _ _ _ _ _ _ _,.mk _ _ _ _ _ _ _ _ _ _]) rfl (λ_=>.inr (.inr ⟨rfl,?_,h3⟩))
   cases i2 (by omega)
   cases i3 (by omega)
   exact .inl ⟨rfl,rfl,rfl⟩
 ·refine VOK_call k88_99 rfl rfl (VOK_lt rfl rfl (VOK_ite rfl (λh=>by cases h) (λ_=>VOK_call k46_9 rfl rfl ?_)))
  repeat (refine it_c rfl rfl (λh=>?_) (λh=>?_)<;>simp only [Cmp,Decidable.not_not,Int.not_lt,Int.not_le]at h<;>try (exfalso;first|exact h trivial|omega))
  (
   refine VOK_loop (ι:=List GX×Nat) (λs=>[(.vsl 2 1 [.int .i64 1,.int .i64 2]),encA s.1,.int .i64 (s.2:Int)]) (λs=>s.1.length=s.2/\s.2<=args.length/\∀a∈s.1,TX 5 a) (λs=>args.length-s.2) ([],0) ⟨rfl,Nat.zero_le _,λa ha=>(List.not_mem_nil ha).elim⟩ rfl (λs _=>by simp only [okL,okC,okA]) (λs s' _ _ h=>by simp at h;omega) (λs hs=>?_)
   obtain ⟨acc,i⟩:=s
   obtain ⟨h1,h2,h3⟩:=hs
   simp only at h1 h2 h3⊢
   refine VOK_lt (run_len38 args) rfl ?_
   (refine it_c rfl rfl (λh=>?_) (λh=>?_)<;>simp only [Cmp,Decidable.not_not,Int.not_lt,Int.not_le]at h<;>try (exfalso;first|exact h trivial|omega))
   ·have hi:i<args.length:=by omega
    have hld:=run_ld40 args hi
    have hz:=p80 5 args[i] (hW _ (List.getElem_mem hi))
    rcases hzz:args[i]with ⟨zo,zk,znm,zfd,zad,zn,zvk,zvi,zvf,za⟩
    rw [hzz]at hld hz
    refine VOK_lt (run_ia38 args hi) (encL_ok okX _) (VOK_ltN hld rfl (okX _) ?_)
    refine callF' hz rfl (okVX _) ⟨?_,trivial⟩
    rintro ws ⟨⟨yo,yk,ynm,yfd,yad,yn,yvk,yvi,yvf,ya⟩,e,rfl,hy⟩
    (refine it_c rfl rfl (λh=>?_) (λh=>?_)<;>simp only [Cmp,Decidable.not_not,Int.not_lt,Int.not_le]at h<;>try (exfalso;first|exact h trivial|omega))
    ·(exact finT (y:=.mk _ (.mk _ _ _ _ _ _ _ _ _ _) (.mk _ _ _ _ _ _ _ _ _ _) _ _ _ _ _ _) rfl (λhe=>absurd he (by first|assumption|decide)))
    have hy:=(hy h).1
    refine VOK_lt (r:=.int .i64 2) rfl rfl ?_
    (refine it_c rfl rfl (λh=>?_) (λh=>?_)<;>simp only [Cmp,Decidable.not_not,Int.not_lt,Int.not_le]at h<;>try (exfalso;first|exact h trivial|omega))
    all_goals first
     |(have hi2:i=0\/i=1:=by omega
       rcases hi2 with rfl|rfl
       all_goals try (exfalso;omega)
       all_goals
        refine VOK_lt rfl rfl (VOK_lt rfl rfl ?_)
        obtain ⟨⟨yo1,yk1,ynm1,yfd1,yad1,yn1,yvk1,yvi1,yvf1,ya1⟩,hp1,hy1⟩:=p89 _ _ hy
        refine VOK_call hp1 rfl (okXe _) ?_
        refine VOK_lt (run_app10 acc (.mk yo1 yk1 ynm1 yfd1 yad1 yn1 yvk1 yvi1 yvf1 ya1) (by omega)) (okA _) (VOK_lt (add_c (by omega) (by omega)) rfl (VOK_again rfl ⟨(acc++[_],_),⟨by rw [List.length_append,h1];rfl,hi,addX h3 hy1⟩,rfl,by simp only;omega⟩)))
     |exact VOK_lt (run_app10 acc (.mk yo yk ynm yfd yad yn yvk yvi yvf ya) (by omega)) (okA _) (VOK_lt (add_c (by omega) (by omega)) rfl (VOK_again rfl ⟨(acc++[_],i+1),⟨by rw [List.length_append,h1];rfl,hi,addX h3 hy⟩,rfl,by simp only;omega⟩))
   have hi:i=args.length:=by omega
   subst hi
   refine VOK_lt (run_len38 acc) rfl (VOK_lt (r:=.int .i64 2) rfl rfl ?_))
  (refine it_c rfl rfl (λh=>?_) (λh=>?_)<;>simp only [Cmp,Decidable.not_not,Int.not_lt,Int.not_le]at h<;>try (exfalso;first|exact h trivial|omega))
  ·(exact finT (y:=.mk _ (.mk _ _ _ _ _ _ _ _ _ _) (.mk _ _ _ _ _ _ _ _ _ _) _ _ _ _ _ _) rfl (λhe=>absurd he (by first|assumption|decide)))
  have ha:acc.length=2:=by
   have h':(acc.length:Int)=2:=h
   omega
  obtain ⟨y,z,rfl⟩:∃y z,acc=[y,z]:=by
   rcases acc with _|⟨y,_|⟨z,_|⟨w,t⟩⟩⟩<;>simp at ha
   exact ⟨y,z,rfl⟩
  obtain ⟨y1,y2,y3,y4,y5,y6,y7,y8,y9,y10⟩:=y
  obtain ⟨z1,z2,z3,z4,z5,z6,z7,z8,z9,z10⟩:=z
  refine VOK_loop (ι:=Nat) (λi=>[.int .i64 (i:Int),.vsl 2 1 [.int .i64 1,.int .i64 2],encA [.mk y1 y2 y3 y4 y5 y6 y7 y8 y9 y10,.mk z1 z2 z3 z4 z5 z6 z7 z8 z9 z10]]) (λi=>i<=2/\(1<=i->y2=1)/\(2<=i->z2=2)) (λi=>2-i) 0 ⟨by decide,λh=>by omega,λh=>by omega⟩ rfl (λs _=>by simp only [okL,okC,okA]) (λs s' _ _ h=>by simp at h;omega) (λi hi=>?_)
  obtain ⟨i1,i2,i3⟩:=hi
  refine VOK_lt (r:=.int .i64 2) rfl rfl ?_
  (refine it_c rfl rfl (λh=>?_) (λh=>?_)<;>simp only [Cmp,Decidable.not_not,Int.not_lt,Int.not_le]at h<;>try (exfalso;first|exact h trivial|omega))
  ·have hi2:i=0\/i=1:=by omega
   rcases hi2 with rfl|rfl
   ·refine VOK_lt (r:=.int .i64 0) rfl rfl (VOK_lt (r:=.int .i64 y2) rfl rfl (VOK_lt (r:=.int .i64 0) rfl rfl (VOK_lt (r:=.int .i64 1) rfl rfl ?_)))
    (refine it_c rfl rfl (λh=>?_) (λh=>?_)<;>simp only [Cmp,Decidable.not_not,Int.not_lt,Int.not_le]at h<;>try (exfalso;first|exact h trivial|omega))
    ·(exact finT (y:=.mk _ (.mk _ _ _ _ _ _ _ _ _ _) (.mk _ _ _ _ _ _ _ _ _ _) _ _ _ _ _ _) rfl (λhe=>absurd he (by first|assumption|decide)))
    ·exact VOK_lt (add_c (by omega) (by omega)) rfl (VOK_again rfl ⟨1,⟨by decide,λ_=>h,λh=>by omega⟩,rfl,by decide⟩)
   ·refine VOK_lt (r:=.int .i64 1) rfl rfl (VOK_lt (r:=.int .i64 z2) rfl rfl (VOK_lt (r:=.int .i64 1) rfl rfl (VOK_lt (r:=.int .i64 2) rfl rfl ?_)))
    (refine it_c rfl rfl (λh=>?_) (λh=>?_)<;>simp only [Cmp,Decidable.not_not,Int.not_lt,Int.not_le]at h<;>try (exfalso;first|exact h trivial|omega))
    ·(exact finT (y:=.mk _ (.mk _ _ _ _ _ _ _ _ _ _) (.mk _ _ _ _ _ _ _ _ _ _) _ _ _ _ _ _) rfl (λhe=>absurd he (by first|assumption|decide)))
    ·exact VOK_lt (add_c (by omega) (by omega)) rfl (VOK_again rfl ⟨2,⟨by decide,λ_=>i2 (by decide),λ_=>h⟩,rfl,by decide⟩)
  ·refine finT (y:=.mk 4 (.mk _ _ _ _ _ _ _ _ _ _) (.mk _ _ _ _ _ _ _ _ _ _) _ _ _ _ _ [.mk _ _ _ _ _ _ _ _ _ _,.mk _ _ _ _ _ _ _ _ _ _]) rfl (λ_=>.inr (.inr ⟨rfl,?_,h3⟩))
   cases i2 (by omega)
   cases i3 (by omega)
   exact .inr (.inl ⟨rfl,rfl,rfl⟩)
 ·refine VOK_call k88_101 rfl rfl (VOK_lt rfl rfl (VOK_ite rfl (λh=>by cases h) (λ_=>VOK_call k46_11 rfl rfl ?_)))
  repeat (refine it_c rfl rfl (λh=>?_) (λh=>?_)<;>simp only [Cmp,Decidable.not_not,Int.not_lt,Int.not_le]at h<;>try (exfalso;first|exact h trivial|omega))
  (
   refine VOK_loop (ι:=List GX×Nat) (λs=>[(.vsl 1 1 [.int .i64 1]),encA s.1,.int .i64 (s.2:Int)]) (λs=>s.1.length=s.2/\s.2<=args.length/\∀a∈s.1,TX 5 a) (λs=>args.length-s.2) ([],0) ⟨rfl,Nat.zero_le _,λa ha=>(List.not_mem_nil ha).elim⟩ rfl (λs _=>by simp only [okL,okC,okA]) (λs s' _ _ h=>by simp at h;omega) (λs hs=>?_)
   obtain ⟨acc,i⟩:=s
   obtain ⟨h1,h2,h3⟩:=hs
   simp only at h1 h2 h3⊢
   refine VOK_lt (run_len38 args) rfl ?_
   (refine it_c rfl rfl (λh=>?_) (λh=>?_)<;>simp only [Cmp,Decidable.not_not,Int.not_lt,Int.not_le]at h<;>try (exfalso;first|exact h trivial|omega))
   ·have hi:i<args.length:=by omega
    have hld:=run_ld40 args hi
    have hz:=p80 5 args[i] (hW _ (List.getElem_mem hi))
    rcases hzz:args[i]with ⟨zo,zk,znm,zfd,zad,zn,zvk,zvi,zvf,za⟩
    rw [hzz]at hld hz
    refine VOK_lt (run_ia38 args hi) (encL_ok okX _) (VOK_ltN hld rfl (okX _) ?_)
    refine callF' hz rfl (okVX _) ⟨?_,trivial⟩
    rintro ws ⟨⟨yo,yk,ynm,yfd,yad,yn,yvk,yvi,yvf,ya⟩,e,rfl,hy⟩
    (refine it_c rfl rfl (λh=>?_) (λh=>?_)<;>simp only [Cmp,Decidable.not_not,Int.not_lt,Int.not_le]at h<;>try (exfalso;first|exact h trivial|omega))
    ·(exact finT (y:=.mk _ (.mk _ _ _ _ _ _ _ _ _ _) (.mk _ _ _ _ _ _ _ _ _ _) _ _ _ _ _ _) rfl (λhe=>absurd he (by first|assumption|decide)))
    have hy:=(hy h).1
    refine VOK_lt (r:=.int .i64 1) rfl rfl ?_
    (refine it_c rfl rfl (λh=>?_) (λh=>?_)<;>simp only [Cmp,Decidable.not_not,Int.not_lt,Int.not_le]at h<;>try (exfalso;first|exact h trivial|omega))
    all_goals first
     |(have hi2:i=0\/i=1:=by omega
       rcases hi2 with rfl|rfl
       all_goals try (exfalso;omega)
       all_goals
        refine VOK_lt rfl rfl (VOK_lt rfl rfl ?_)
        obtain ⟨⟨yo1,yk1,ynm1,yfd1,yad1,yn1,yvk1,yvi1,yvf1,ya1⟩,hp1,hy1⟩:=p89 _ _ hy
        refine VOK_call hp1 rfl (okXe _) ?_
        refine VOK_lt (run_app10 acc (.mk yo1 yk1 ynm1 yfd1 yad1 yn1 yvk1 yvi1 yvf1 ya1) (by omega)) (okA _) (VOK_lt (add_c (by omega) (by omega)) rfl (VOK_again rfl ⟨(acc++[_],_),⟨by rw [List.length_append,h1];rfl,hi,addX h3 hy1⟩,rfl,by simp only;omega⟩)))
     |exact VOK_lt (run_app10 acc (.mk yo yk ynm yfd yad yn yvk yvi yvf ya) (by omega)) (okA _) (VOK_lt (add_c (by omega) (by omega)) rfl (VOK_again rfl ⟨(acc++[_],i+1),⟨by rw [List.length_append,h1];rfl,hi,addX h3 hy⟩,rfl,by simp only;omega⟩))
   have hi:i=args.length:=by omega
   subst hi
   refine VOK_lt (run_len38 acc) rfl (VOK_lt (r:=.int .i64 1) rfl rfl ?_))
  (refine it_c rfl rfl (λh=>?_) (λh=>?_)<;>simp only [Cmp,Decidable.not_not,Int.not_lt,Int.not_le]at h<;>try (exfalso;first|exact h trivial|omega))
  ·(exact finT (y:=.mk _ (.mk _ _ _ _ _ _ _ _ _ _) (.mk _ _ _ _ _ _ _ _ _ _) _ _ _ _ _ _) rfl (λhe=>absurd he (by first|assumption|decide)))
  have ha:acc.length=1:=by
   have h':(acc.length:Int)=1:=h
   omega
  obtain ⟨y,rfl⟩:=List.length_eq_one_iff.1 ha
  obtain ⟨y1,y2,y3,y4,y5,y6,y7,y8,y9,y10⟩:=y
  refine VOK_loop (ι:=Nat) (λi=>[.int .i64 (i:Int),.vsl 1 1 [.int .i64 1],encA [.mk y1 y2 y3 y4 y5 y6 y7 y8 y9 y10]]) (λi=>i<=1/\(1<=i->y2=1)) (λi=>1-i) 0 ⟨by decide,λh=>by omega⟩ rfl (λs _=>by simp only [okL,okC,okA]) (λs s' _ _ h=>by simp at h;omega) (λi hi=>?_)
  obtain ⟨i1,i2⟩:=hi
  refine VOK_lt (r:=.int .i64 1) rfl rfl ?_
  (refine it_c rfl rfl (λh=>?_) (λh=>?_)<;>simp only [Cmp,Decidable.not_not,Int.not_lt,Int.not_le]at h<;>try (exfalso;first|exact h trivial|omega))
  ·have hi2:i=0:=by omega
   subst hi2
   refine VOK_lt (r:=.int .i64 0) rfl rfl (VOK_lt (r:=.int .i64 y2) rfl rfl (VOK_lt (r:=.int .i64 0) rfl rfl (VOK_lt (r:=.int .i64 1) rfl rfl ?_)))
   (refine it_c rfl rfl (λh=>?_) (λh=>?_)<;>simp only [Cmp,Decidable.not_not,Int.not_lt,Int.not_le]at h<;>try (exfalso;first|exact h trivial|omega))
   ·(exact finT (y:=.mk _ (.mk _ _ _ _ _ _ _ _ _ _) (.mk _ _ _ _ _ _ _ _ _ _) _ _ _ _ _ _) rfl (λhe=>absurd he (by first|assumption|decide)))
   ·exact VOK_lt (add_c (by omega) (by omega)) rfl (VOK_again rfl ⟨1,⟨by decide,λ_=>h⟩,rfl,by decide⟩)
  ·refine finT (y:=.mk 4 (.mk _ _ _ _ _ _ _ _ _ _) (.mk _ _ _ _ _ _ _ _ _ _) _ _ _ _ _ [.mk _ _ _ _ _ _ _ _ _ _]) rfl (λ_=>.inr (.inr ⟨rfl,?_,h3⟩))
   cases i2 (by omega)
   exact .inr (.inr ⟨rfl,rfl,rfl⟩)
theorem run_len25 (l:List GS):(XOp.len 25).run Try.prog [encB l]=some (.int .i64 (l.length:Int)):=by rw [encB_eq];exact run_len_sl Try.underlying25 l
theorem run_ia25 (l:List GS) {i:Nat} (h:i<l.length):(XOp.iaddr 25).run Try.prog [encB l,.int .i64 (i:Int)]=some (.vptr (encL encS (l.drop i))):=by
 rw [encB_eq];exact run_iaddr_sl (e:=42) (ti:=(Try.prog.info? 42).get!) Try.underlying25 (by kernel_rfl) (by kernel_rfl) lenS h .i64
theorem run_ld42 (l:List GS) {i:Nat} (h:i<l.length):(XOp.load 42).run Try.prog [.vptr (encL encS (l.drop i))]=some (.agg (encS l[i])):=
 run_load_agg (ti:=(Try.prog.info? 42).get!) Try.underlying42 rfl (by kernel_rfl) (by kernel_rfl) lenS h
def PT (d:Nat):Prop:=∀x:GS,WS d x->CF Try.prog 63 ft63 (VARS::encS x) (RT d)
theorem p36 (d:Nat) (hT:PT d) (l:List GS) (hl:l.length<=5) (hW:∀s∈l,WS d s):CF Try.prog 36 ft36 [VARS,encB l] (RU d l.length):=by
 refine cf_tree (c:=c36) (n:=300) (t:=t36) mo ov rfl (λY _=>known0 _) (by kernel_rfl) λY hf hg=>?_
 unfold t36
 refine VOK_loop (ι:=List GS×Nat) (λs=>[encB s.1,.int .i64 (s.2:Int)]) (λs=>s.1.length=s.2/\s.2<=l.length/\∀a∈s.1,TS d a) (λs=>l.length-s.2) ([],0) ⟨rfl,Nat.zero_le _,λa ha=>(List.not_mem_nil ha).elim⟩ rfl (λs _=>by simp only [okL,okC,okB]) (λs s' _ _ h=>by simp at h;omega) (λs hs=>?_)
 obtain ⟨acc,i⟩:=s
 obtain ⟨h1,h2,h3⟩:=hs
 simp only at h1 h2 h3⊢
 refine VOK_lt (run_len25 l) rfl ?_
 (refine it_c rfl rfl (λh=>?_) (λh=>?_)<;>simp only [Cmp,Decidable.not_not,Int.not_lt,Int.not_le]at h<;>try (exfalso;first|exact h trivial|omega))
 ·have hi:i<l.length:=by omega
  have hld:=run_ld42 l hi
  have hz:=hT l[i] (hW _ (List.getElem_mem hi))
  rcases hzz:l[i]with ⟨op,⟨to1,to2,to3,to4,to5,to6,to7,to8,to9,to10⟩,⟨e1,e2,e3,e4,e5,e6,e7,e8,e9,e10⟩,thn,els,nm,kd,ad,args⟩
  rw [hzz]at hld hz
  refine VOK_lt (run_ia25 l hi) (encL_ok okS _) (VOK_ltN hld rfl (okS _) ?_)
  refine callF' hz rfl (okVS _) ⟨?_,trivial⟩
  rintro ws ⟨⟨op',⟨so1,so2,so3,so4,so5,so6,so7,so8,so9,so10⟩,⟨f1,f2,f3,f4,f5,f6,f7,f8,f9,f10⟩,thn',els',nm',kd',ad',args'⟩,e,rfl,hy⟩
  (refine it_c rfl rfl (λh=>?_) (λh=>?_)<;>simp only [Cmp,Decidable.not_not,Int.not_lt,Int.not_le]at h<;>try (exfalso;first|exact h trivial|omega))
  ·exact VOK_fin rfl ⟨[],e,rfl,λhe=>absurd he h⟩
  ·rename_i hh
   refine VOK_lt (run_app27 acc (.mk op' (.mk so1 so2 so3 so4 so5 so6 so7 so8 so9 so10) (.mk f1 f2 f3 f4 f5 f6 f7 f8 f9 f10) thn' els' nm' kd' ad' args') (by omega)) (okB _) (VOK_lt (add_c (by omega) (by omega)) rfl (VOK_again rfl ⟨(acc++[_],i+1),⟨by rw [List.length_append,h1];rfl,hi,?_⟩,rfl,by simp only;omega⟩))
   intro a ha
   rcases List.mem_append.1 ha with ha|ha
   ·exact h3 a ha
   ·cases List.mem_singleton.1 ha;exact hy (by assumption)
 ·exact VOK_fin (by show okL [encB acc,.int .i64 0]=true;simp only [okL,okC,okB]) ⟨acc,0,rfl,λ_=>⟨by omega,h3⟩⟩
theorem okVB (l:List GS):okL [VARS,encB l]=true:=by rw [okL_cons];simp only [okL,okC,okB];rfl
theorem p63:∀d:Nat,PT d
 |0,_,h=>h.elim
 |d+1,.mk op to e thn els nm kd ad args,hx=>by
  have ih:=p36 d (p63 d)
  have h1:op=1->_:=λh=>p78 d to e thn els nm kd ad args
  have h4:=p79 d to e thn els nm kd ad args
  have h2:=p80 5 e
  obtain ⟨to1,to2,to3,to4,to5,to6,to7,to8,to9,to10⟩:=to
  obtain ⟨e1,e2,e3,e4,e5,e6,e7,e8,e9,e10⟩:=e
  refine cf_tree (c:=c63) (n:=300) (t:=t63) mo ov rfl (λY _=>known0 _) (by kernel_rfl) λY hf hg=>?_
  unfold t63
  rcases hx with ⟨rfl,a1,a2,a3⟩|⟨ho,b1,b2,b3,b4,b5⟩|⟨rfl,a1,a2,a3⟩
  ·(refine it_c rfl rfl (λh=>?_) (λh=>?_)<;>simp only [Cmp,Decidable.not_not,Int.not_lt,Int.not_le]at h<;>try (exfalso;first|exact h trivial|omega))
   refine callF' (h1 rfl a1 a2 a3) rfl (okVS _) ⟨?_,trivial⟩
   rintro ws ⟨⟨op',⟨so1,so2,so3,so4,so5,so6,so7,so8,so9,so10⟩,⟨f1,f2,f3,f4,f5,f6,f7,f8,f9,f10⟩,thn',els',nm',kd',ad',args'⟩,e,rfl,hy⟩
   exact finT (y:=.mk _ (.mk _ _ _ _ _ _ _ _ _ _) (.mk _ _ _ _ _ _ _ _ _ _) _ _ _ _ _ _) rfl hy
  ·(refine it_c rfl rfl (λh=>?_) (λh=>?_)<;>simp only [Cmp,Decidable.not_not,Int.not_lt,Int.not_le]at h<;>try (exfalso;first|exact h trivial|omega));(refine it_c rfl rfl (λh=>?_) (λh=>?_)<;>simp only [Cmp,Decidable.not_not,Int.not_lt,Int.not_le]at h<;>try (exfalso;first|exact h trivial|omega))
   refine callF' (h2 b1) rfl (okVX _) ⟨?_,trivial⟩
   rintro ws ⟨⟨y1,y2,y3,y4,y5,y6,y7,y8,y9,y10⟩,er,rfl,hy⟩
   (refine it_c rfl rfl (λh=>?_) (λh=>?_)<;>simp only [Cmp,Decidable.not_not,Int.not_lt,Int.not_le]at h<;>try (exfalso;first|exact h trivial|omega))
   ·(exact finT (y:=.mk _ (.mk _ _ _ _ _ _ _ _ _ _) (.mk _ _ _ _ _ _ _ _ _ _) _ _ _ _ _ _) rfl (λhe=>absurd he (by first|assumption|decide)))
   have hy:=(hy h).1
   (refine it_c rfl rfl (λh=>?_) (λh=>?_)<;>simp only [Cmp,Decidable.not_not,Int.not_lt,Int.not_le]at h<;>try (exfalso;first|exact h trivial|omega))
   ·(exact finT (y:=.mk _ (.mk _ _ _ _ _ _ _ _ _ _) (.mk _ _ _ _ _ _ _ _ _ _) _ _ _ _ _ _) rfl (λhe=>absurd he (by first|assumption|decide)))
   have hk:=h
   refine callF' (ih thn b2 b4) rfl (okVB _) ⟨?_,trivial⟩
   rintro ws ⟨thn',er1,rfl,ht⟩
   (refine it_c rfl rfl (λh=>?_) (λh=>?_)<;>simp only [Cmp,Decidable.not_not,Int.not_lt,Int.not_le]at h<;>try (exfalso;first|exact h trivial|omega))
   ·(exact finT (y:=.mk _ (.mk _ _ _ _ _ _ _ _ _ _) (.mk _ _ _ _ _ _ _ _ _ _) _ _ _ _ _ _) rfl (λhe=>absurd he (by first|assumption|decide)))
   have ht:=ht h
   refine callF' (ih els b3 b5) rfl (okVB _) ⟨?_,trivial⟩
   rintro ws ⟨els',er2,rfl,hs⟩
   refine finT (y:=.mk _ (.mk _ _ _ _ _ _ _ _ _ _) (.mk _ _ _ _ _ _ _ _ _ _) _ _ _ _ _ _) rfl (λh0=>.inr (.inl ⟨ho,hy,hk,by rw [ht.1];exact b2,by rw [(hs h0).1];exact b3,ht.2,(hs h0).2⟩))
  ·(refine it_c rfl rfl (λh=>?_) (λh=>?_)<;>simp only [Cmp,Decidable.not_not,Int.not_lt,Int.not_le]at h<;>try (exfalso;first|exact h trivial|omega));(refine it_c rfl rfl (λh=>?_) (λh=>?_)<;>simp only [Cmp,Decidable.not_not,Int.not_lt,Int.not_le]at h<;>try (exfalso;first|exact h trivial|omega))
   refine callF' (h4 a1 a2 a3) rfl (okVS _) ⟨?_,trivial⟩
   rintro ws ⟨⟨op',⟨so1,so2,so3,so4,so5,so6,so7,so8,so9,so10⟩,⟨f1,f2,f3,f4,f5,f6,f7,f8,f9,f10⟩,thn',els',nm',kd',ad',args'⟩,e,rfl,hy⟩
   exact finT (y:=.mk _ (.mk _ _ _ _ _ _ _ _ _ _) (.mk _ _ _ _ _ _ _ _ _ _) _ _ _ _ _ _) rfl hy
end Go.Proofs.Ytjconanknjgpnaa.vars
set_option maxRecDepth 100000
set_option linter.unusedVariables false
set_option linter.unusedSimpArgs false
namespace Go.Proofs.Ytjconanknjgpnaa.vars
open Go Go.Sx
def c19:VC:=⟨⟨[],[]⟩,[(37,[none])],[],1,true,[(38,ft38)]⟩
def t19:VT:=
 (.call 37 [] 66 [none]
 (.callF 38 ft38 [64,65,J 5,J 2] 67
 (.cons 2
 (.done (.tup [J 0,66,71,72]))
 .nil)))
def c18:VC:=⟨⟨[],[]⟩,[],[],0,true,[]⟩
def t18:VT:=
 (.done (.tup [J 0]))
def c17:VC:=⟨⟨[],[]⟩,[(35,[none])],[],0,true,[(36,ft36)]⟩
def t17:VT:=
 (.call 35 [64] 66 [none]
 (.lt (.bin .neq 31 false true) [66,J 0] 67 none
 (.ite 67
 (.done (.tup [J 0,.nsl,.nsl,66]))
 (.callF 36 ft36 [64,65] 68
 (.cons 2
 (.lt (.bin .neq 31 false true) [71,J 0] 72 none
 (.ite 72
 (.done (.tup [J 0,.nsl,.nsl,71]))
 (.lt (.app 10 88) [.vsl 0 10 [],64] 73 none
 (.done (.tup [J 0,73,70,J 0])))))
 .nil)))))
def c7:VC:=⟨⟨[],[]⟩,[],[],0,true,[(18,ft18),(19,ft19),(17,ft17)]⟩
def t7:VT:=
 (.callF 18 ft18 [64] 65
 (.cons 0
 (.callF 19 ft19 [64,J 0] 66
 (.cons 3
 (.callF 17 ft17 [68,69] 71
 (.cons 3
 (.lt (.bin .eql 31 false true) [75,J 0] 76 none
 (.done (.tup [J 0,73,74,76])))
 .nil))
 .nil))
 .nil))
def R19 (l:List UInt8):Nat->List AV->Prop:=λ_ ws=>∃(b:List GS) (n:Nat),ws=[VARS,encB b,.int .i64 (n:Int)]/\b.length<=5/\∀s∈b,WS 3 s
theorem p19 {l:List UInt8} {a:AV} (hp:Pk l a):CF Try.prog 19 ft19 [a,.int .i64 0] (R19 l):=by
 have hA:=hp.1.ok okC8
 refine cf_tree (c:=c19) (n:=300) (t:=t19) mo ov rfl (λY _=>known0 _) (by kernel_rfl) λY hf hg=>?_
 unfold t19
 refine VOK_call k37 rfl rfl ?_
 refine callF' ((pS hp 2 (by decide)).2 0 5 (Nat.zero_le _) (by decide) (by decide)) rfl (okR hA) ⟨?_,trivial⟩
 rintro ws ⟨b,n,rfl,⟨h1,h2⟩,h3⟩
 exact VOK_fin (by show okL [VARS,encB b,.int .i64 (n:Int)]=true;rw [okL_cons];simp only [okL,okC,okB];rfl) ⟨b,n,rfl,h1,h2⟩
theorem p18 (a:AV) (h:okC a=true):CF Try.prog 18 ft18 [a] (λ_ ws=>ws=[]):=by
 refine cf_tree (c:=c18) (n:=300) (t:=t18) mo ov rfl (λY _=>known0 _) (by kernel_rfl) λY hf hg=>?_
 unfold t18
 exact VOK_fin rfl rfl
def RC:Nat->List AV->Prop:=λ_ ws=>∃(v:AV) (b:List GS) (e:Int),ws=[v,encB b,.int .i64 e]/\okC v=true/\(e=0->v=VARS/\b.length<=5/\∀s∈b,TS 3 s)
theorem okVBI {v:AV} (hv:okC v=true) (b:List GS) {x:AV} (hx:okC x=true):okL [v,encB b,x]=true:=by simp only [okL,hv,okB,hx]
theorem p17 (b:List GS) (hl:b.length<=5) (h:∀s∈b,WS 3 s):CF Try.prog 17 ft17 [VARS,encB b] RC:=by
 refine cf_tree (c:=c17) (n:=300) (t:=t17) mo ov rfl (λY _=>known0 _) (by kernel_rfl) λY hf hg=>?_
 unfold t17
 refine VOK_call k35 rfl rfl ?_
 (refine it_c rfl rfl (λh=>?_) (λh=>?_)<;>simp only [Cmp,Decidable.not_not,Int.not_lt,Int.not_le]at h<;>try (exfalso;first|exact h trivial|omega))
 refine callF' (p36 3 (p63 3) b hl (by assumption)) rfl (okVB _) ⟨?_,trivial⟩
 rintro ws ⟨b',e,rfl,hb⟩
 (refine it_c rfl rfl (λh=>?_) (λh=>?_)<;>simp only [Cmp,Decidable.not_not,Int.not_lt,Int.not_le]at h<;>try (exfalso;first|exact h trivial|omega))
 ·exact VOK_fin rfl ⟨.nsl,[],e,rfl,rfl,λhe=>absurd he (by assumption)⟩
 ·have hb:=hb (by assumption)
  refine VOK_lt (r:=VARS) rfl rfl (VOK_fin (okVBI (v:=VARS) rfl b' (x:=.int .i64 0) rfl) ⟨VARS,b',0,rfl,rfl,λ_=>⟨rfl,by omega,hb.2⟩⟩)
def R7:Nat->List AV->Prop:=λ_ ws=>∃(v:AV) (b:List GS) (e:Bool),ws=[v,encB b,.bool e]/\okC v=true/\(e=true->v=VARS/\b.length<=5/\∀s∈b,TS 3 s)
theorem p7 {l:List UInt8} {a:AV} (hp:Pk l a):CF Try.prog 7 ft7 [a] R7:=by
 have hA:=hp.1.ok okC8
 refine cf_tree (c:=c7) (n:=300) (t:=t7) mo ov rfl (λY _=>known0 _) (by kernel_rfl) λY hf hg=>?_
 unfold t7
 refine callF' (p18 a hA) rfl (by simp only [okL,hA]) ⟨?_,trivial⟩
 rintro ws rfl
 refine callF' (p19 hp) rfl (by simp only [okL,hA,okC]) ⟨?_,trivial⟩
 rintro ws ⟨b,n,rfl,h1,h2⟩
 refine callF' (p17 b h1 h2) rfl (okVB _) ⟨?_,trivial⟩
 rintro ws ⟨v,b',e,rfl,hv,hb⟩
 refine VOK_lt (run_eql ..) rfl (VOK_fin (okVBI hv b' (x:=.bool _) rfl) ⟨v,b',decide (e=0),rfl,hv,λhe=>hb (of_decide_eq_true he)⟩)
end Go.Proofs.Ytjconanknjgpnaa.vars
set_option maxRecDepth 100000
set_option linter.unusedVariables false
set_option linter.unusedSimpArgs false
namespace Go.Proofs.Ytjconanknjgpnaa.vars
open Go Go.Sx
structure GI where
 op:Int
 kd:Int
 ad:Int
 n:Int
 vk:Int
 vi:Int
 vf:Nat
def encG (i:GI):List AV:=[.int .i64 i.op,.int .i64 i.kd,.int .i64 i.ad,.int .i64 i.n,.int .i64 i.vk,.int .i64 i.vi,.flt .f64 i.vf]
theorem lenG (i:GI):(encG i).length=7:=rfl
theorem okG (i:GI):okL (encG i)=true:=rfl
abbrev insts (l:List GI):AV:=sliceOf encG 7 l
theorem okI (l:List GI):okC (insts l)=true:=sliceOf_ok okG l
def ins (op kd ad n:Int):GI:=⟨op,kd,ad,n,0,0,0⟩
def kd0:List GX->Int
 |[]=>0
 |a::_=>a.kd
def instE (op kd ad n vk vi:Int) (vf:Nat) (args:List GX):GI:=
 if op=1 then ⟨1,vk,0,0,vk,vi,vf⟩else if op=2 then ins 2 0 ad 0 else if op=3 then ins 3 0 ad n else if op=17 then ins 17 kd 0 (kd0 args)else ins op (kd0 args) 0 0
mutual
def genE:GX->List GI
 | .mk op kd nm fd ad n vk vi vf args=>genEs args++[instE op kd ad n vk vi vf args]
def genEs:List GX->List GI
 |[]=>[]
 |a::r=>genE a++genEs r
end
theorem genEs_app:∀a b:List GX,genEs (a++b)=genEs a++genEs b
 |[],b=>rfl
 |x::a,b=>by simp only [List.cons_append,genEs,genEs_app a b,List.append_assoc]
theorem genEs_len {d:Nat} {M:Nat}:∀{l:List GX},(∀x∈l,(genE x).length<=M)->(genEs l).length<=l.length*M
 |[],_=>by simp [genEs]
 |a::r,h=>by
  have h1:=h a (List.mem_cons_self ..)
  have h2:=genEs_len (d:=d) (M:=M) (l:=r) λx hx=>h x (List.mem_cons_of_mem _ hx)
  simp only [genEs,List.length_append,List.length_cons,Nat.add_mul,Nat.one_mul];omega
theorem genE_len:∀{d:Nat} {x:GX},TX d x->(genE x).length+1<=2^d
 |0,_,h=>h.elim
 |d+1,.mk op kd nm fd ad n vk vi vf args,⟨h1,_,_,_,_,h6⟩=>by
  have hl:args.length<=2:=by unfold Ari at h1;omega
  have hp:1<=2^d:=Nat.one_le_two_pow
  have:=genEs_len (d:=d) (M:=2^d-1) (l:=args) λx hx=>by have:=genE_len (h6 x hx);omega
  have h2:args.length*(2^d-1)<=2*(2^d-1):=Nat.mul_le_mul_right _ hl
  simp only [genE,List.length_append,List.length_cons,List.length_nil,Nat.pow_succ];omega
def genTo:GX->List GI
 | .mk op _ _ _ ad n _ _ _ args=>if op=3 then genEs args++[ins 19 0 ad n]else [ins 18 0 ad 0]
mutual
def genS:Nat->GS->List GI
 |b,.mk op to e thn els nm kd ad args=>
  if op=1 then genE e++genTo to
  else if op=2 then
   let c:=genE e
   let t:=genSs (b+c.length+1) thn
   if els=[]then c++[ins 21 0 ((b+c.length+1+t.length:Nat):Int) 0]++t
   else
    let q:=genSs (b+c.length+1+t.length+1) els
    c++[ins 21 0 ((b+c.length+1+t.length+1:Nat):Int) 0]++t++[ins 20 0 ((b+c.length+1+t.length+1+q.length:Nat):Int) 0]++q
  else if op=3 then
   let c:=genE e
   let t:=genSs (b+c.length+1) thn
   c++[ins 21 0 ((b+c.length+1+t.length+1:Nat):Int) 0]++t++[ins 20 0 (b:Int) 0]
  else genEs args++[ins 22 kd ad (args.length:Int)]
def genSs:Nat->List GS->List GI
 |_,[]=>[]
 |b,s::r=>genS b s++genSs (b+(genS b s).length) r
end
def c22:VC:=⟨⟨[],[]⟩,[],[],1,true,[]⟩
def t22:VT:=
 (.lt (.app 7 56) [64,.agg [65,66,67,68,69,70,71]] 72 none
 (.lt (.len 30) [72] 73 none
 (.lt (.bin .sub 3 false true) [73,J 1] 74 none
 (.done (.tup [J 0,74,72])))))
def c24:VC:=⟨⟨[],[]⟩,[],[(0,[⟨[(10,.slx 0 0 0),(0,.ptr 0 0),(8,74),(3,.ptr 2 0),(9,75)],[(0,[.slx 3 7 1]),(2,[65,66,67,68,69,70,71,72,73,74])],4,2,[⟨3,7,1,0,(some 0)⟩],[],[]⟩])],1,true,[(24,ft24),(22,ft22)]⟩
def t24:VT:=
 (.lt (.len 38) [74] 75 none
 (.loop 76 0 [J 0,64]
 (.cons 2
 (.lt (.bin .lss 3 false false) [76,75] 78 none
 (.ite 78
 (.lt (.iaddr 38) [74,76] 79 none
 (.lt (.load 40) [79] 80 (some 10)
 (.callF 24 ft24 [77,80,81,82,83,84,85,86,87,88,89] 90
 (.cons 1
 (.lt (.bin .add 3 false true) [76,J 1] 102 none
 (.again 0 0 [102,101]))
 .nil))))
 (.lt (.bin .eql 3 false true) [65,J 1] 79 none
 (.ite 79
 (.callF 22 ft22 [77,J 1,71,J 0,J 0,71,72,73] 80
 (.cons 2
 (.done (.tup [J 0,89]))
 .nil))
 (.lt (.bin .eql 3 false true) [65,J 2] 80 none
 (.ite 80
 (.callF 22 ft22 [77,J 2,J 0,69,J 0,J 0,J 0,.flt .f64 0] 81
 (.cons 2
 (.done (.tup [J 0,90]))
 .nil))
 (.lt (.bin .eql 3 false true) [65,J 3] 81 none
 (.ite 81
 (.callF 22 ft22 [77,J 3,J 0,69,70,J 0,J 0,.flt .f64 0] 82
 (.cons 2
 (.done (.tup [J 0,91]))
 .nil))
 (.lt (.bin .eql 3 false true) [65,J 17] 82 none
 (.ite 82
 (.lt (.len 38) [74] 83 none
 (.lt (.bin .gtr 3 false true) [83,J 0] 84 none
 (.ite 84
 (.lt (.iaddr 38) [74,J 0] 85 none
 (.lt (.faddr 40 1) [85] 86 none
 (.lt (.load 3) [86] 87 none
 (.callF 22 ft22 [77,J 17,66,J 0,87,J 0,J 0,.flt .f64 0] 88
 (.cons 2
 (.done (.tup [J 0,97]))
 .nil)))))
 (.callF 22 ft22 [77,J 17,66,J 0,J 0,J 0,J 0,.flt .f64 0] 85
 (.cons 2
 (.done (.tup [J 0,94]))
 .nil)))))
 (.lt (.len 38) [74] 83 none
 (.lt (.bin .gtr 3 false true) [83,J 0] 84 none
 (.ite 84
 (.lt (.iaddr 38) [74,J 0] 85 none
 (.lt (.faddr 40 1) [85] 86 none
 (.lt (.load 3) [86] 87 none
 (.callF 22 ft22 [77,65,87,J 0,J 0,J 0,J 0,.flt .f64 0] 88
 (.cons 2
 (.done (.tup [J 0,97]))
 .nil)))))
 (.callF 22 ft22 [77,65,J 0,J 0,J 0,J 0,J 0,.flt .f64 0] 85
 (.cons 2
 (.done (.tup [J 0,94]))
 .nil)))))))))))))))
 .nil)))
theorem run_app7 (l:List GI) (i:GI) (hl:l.length<=1000000):(XOp.app 7 56).run Try.prog [insts l,.agg (encG i)]=some (insts (l++[i])):=run_app_sl lenG (by decide) (by decide) l i (by omega)
theorem run_len30 (l:List GI):(XOp.len 30).run Try.prog [insts l]=some (.int .i64 (l.length:Int)):=run_len_sl Try.underlying30 l
def R22 (l:List GI) (i:GI):Nat->List AV->Prop:=λ_ ws=>ws=[.int .i64 (l.length:Int),insts (l++[i])]
theorem okIG (l:List GI) (i:GI):okL (insts l::encG i)=true:=by rw [okL_cons,okI];rfl
theorem p22 (l:List GI) (i:GI) (hl:l.length<=1000000):CF Try.prog 22 ft22 (insts l::encG i) (R22 l i):=by
 refine cf_tree (c:=c22) (n:=300) (t:=t22) mo ov rfl (λY _=>known0 _) (by kernel_rfl) λY hf hg=>?_
 unfold t22
 refine VOK_lt (run_app7 l i hl) (okI _) (VOK_lt (run_len30 _) rfl (VOK_lt (sub_c (z:=(l.length:Int)) (by simp) (by omega) (by omega)) rfl (VOK_fin ?_ rfl)))
 show okL [.int .i64 (l.length:Int),insts (l++[i])]=true
 simp only [okL,okC,okI]
def R24 (l:List GI):Nat->List AV->Prop:=λ_ ws=>ws=[insts l]
theorem okIX (l:List GI) (x:GX):okL (insts l::encX x)=true:=by rw [okL_cons,okI];exact okX x
theorem ok1I (l:List GI):okL [insts l]=true:=by simp only [okL,okI]
theorem p24:∀(d:Nat) (x:GX),d<=10->TX d x->∀l:List GI,l.length+(genE x).length<=900000->CF Try.prog 24 ft24 (insts l::encX x) (R24 (l++genE x))
 |0,_,_,h,_,_=>h.elim
 |d+1,.mk op kd nm fd ad n vk vi vf args,hd,hx,l,hl=>by
  obtain ⟨h1,_,_,_,_,h6⟩:=hx
  have hal:args.length<=2:=by unfold Ari at h1;omega
  have hgl:(genE (.mk op kd nm fd ad n vk vi vf args)).length=(genEs args).length+1:=by simp only [genE,List.length_append,List.length_cons,List.length_nil]
  have hE:∀i,(genEs (args.take i)).length<=(genEs args).length:=λi=>by
   have:=congrArg List.length (genEs_app (args.take i) (args.drop i))
   rw [List.take_append_drop,List.length_append]at this
   omega
  refine cf_tree (c:=c24) (n:=300) (t:=t24) mo ov rfl (λY _=>known0 _) (by kernel_rfl) λY hf hg=>?_
  unfold t24
  refine VOK_lt (run_len38 args) rfl ?_
  refine VOK_loop (ι:=Nat) (λi=>[.int .i64 (i:Int),insts (l++genEs (args.take i))]) (λi=>i<=args.length) (λi=>args.length-i) 0 (Nat.zero_le _) (by simp [genEs];rfl) (λi _=>by simp only [okL,okC,okI]) (λi j _ _ h=>by simp at h;omega) (λi hi=>?_)
  (refine it_c rfl rfl (λh=>?_) (λh=>?_)<;>simp only [Cmp,Decidable.not_not,Int.not_lt,Int.not_le]at h<;>try (exfalso;first|exact h trivial|omega))
  ·have hi:i<args.length:=by omega
   have hld:=run_ld40 args hi
   have hg:genEs (args.take (i+1))=genEs (args.take i)++genE args[i]:=by
    rw [List.take_succ_eq_append_getElem hi,genEs_app];simp only [genEs,List.append_nil]
   have hz:=p24 d args[i] (by omega) (h6 _ (List.getElem_mem hi)) (l++genEs (args.take i)) (by
    have:=hE (i+1)
    rw [hg,List.length_append]at this
    rw [List.length_append];omega)
   rcases hzz:args[i]with ⟨zo,zk,znm,zfd,zad,zn,zvk,zvi,zvf,za⟩
   rw [hzz]at hld hz hg
   refine VOK_lt (run_ia38 args hi) (encL_ok okX _) (VOK_ltN hld rfl (okX _) ?_)
   refine callF' hz rfl (okIX _ _) ⟨?_,trivial⟩
   rintro ws rfl
   refine VOK_lt (add_c (by omega) (by omega)) rfl (VOK_again rfl ⟨i+1,hi,?_,by omega⟩)
   rw [hg,←List.append_assoc];rfl
  have hi:i=args.length:=by omega
  subst hi
  rw [List.take_length]
  have hlen:(l++genEs args).length<=900000:=by
   rw [List.length_append];omega
  have fin:∀i:GI,instE op kd ad n vk vi vf args=i->R24 (l++genE (.mk op kd nm fd ad n vk vi vf args)) 0 [insts (l++genEs args++[i])]:=λi hi=>by
   show _=_
   simp only [genE,hi,List.append_assoc]
  (refine it_c rfl rfl (λh=>?_) (λh=>?_)<;>simp only [Cmp,Decidable.not_not,Int.not_lt,Int.not_le]at h<;>try (exfalso;first|exact h trivial|omega))
  ·(
     refine callF' (p22 _ ⟨1,vk,0,0,vk,vi,vf⟩ (by omega)) rfl (okIG _ _) ⟨?_,trivial⟩
     rintro ws rfl
     refine VOK_fin (ok1I _) ?_)
   exact fin _ (by unfold instE;rw [if_pos h])
  (refine it_c rfl rfl (λh=>?_) (λh=>?_)<;>simp only [Cmp,Decidable.not_not,Int.not_lt,Int.not_le]at h<;>try (exfalso;first|exact h trivial|omega))
  ·(
     refine callF' (p22 _ (ins 2 0 ad 0) (by omega)) rfl (okIG _ _) ⟨?_,trivial⟩
     rintro ws rfl
     refine VOK_fin (ok1I _) ?_)
   exact fin _ (by unfold instE;rw [if_neg (by omega),if_pos h])
  (refine it_c rfl rfl (λh=>?_) (λh=>?_)<;>simp only [Cmp,Decidable.not_not,Int.not_lt,Int.not_le]at h<;>try (exfalso;first|exact h trivial|omega))
  ·(
     refine callF' (p22 _ (ins 3 0 ad n) (by omega)) rfl (okIG _ _) ⟨?_,trivial⟩
     rintro ws rfl
     refine VOK_fin (ok1I _) ?_)
   exact fin _ (by unfold instE;rw [if_neg (by omega),if_neg (by omega),if_pos h])
  have h0:1<=args.length:=by unfold Ari at h1;omega
  obtain ⟨y,r,rfl⟩:∃y r,args=y::r:=by
   cases args with
   |nil=>simp at h0
   |cons y r=>exact ⟨y,r,rfl⟩
  obtain ⟨y1,y2,y3,y4,y5,y6,y7,y8,y9,y10⟩:=y
  (refine it_c rfl rfl (λh=>?_) (λh=>?_)<;>simp only [Cmp,Decidable.not_not,Int.not_lt,Int.not_le]at h<;>try (exfalso;first|exact h trivial|omega))
  ·refine VOK_lt (run_len38 _) rfl ?_
   (refine it_c rfl rfl (λh=>?_) (λh=>?_)<;>simp only [Cmp,Decidable.not_not,Int.not_lt,Int.not_le]at h<;>try (exfalso;first|exact h trivial|omega))
   refine VOK_lt (r:=.vptr (encX (.mk y1 y2 y3 y4 y5 y6 y7 y8 y9 y10)++encXs r)) rfl (by show okL _=true;exact encL_ok.okL_join (okX _) (okXs _)) ?_
   refine VOK_lt (r:=.vptr ([.int .i64 y2,.str y3,.str y4,.int .i64 y5,.int .i64 y6,.int .i64 y7,.int .i64 y8,.flt .f64 y9,encA y10]++encXs r)) rfl (by show okL _=true;exact encL_ok.okL_join (by simp only [okC,okL,okA]) (okXs _)) (VOK_lt (r:=.int .i64 y2) rfl rfl ?_)
   (
    refine callF' (p22 _ (ins 17 kd 0 y2) (by omega)) rfl (okIG _ _) ⟨?_,trivial⟩
    rintro ws rfl
    refine VOK_fin (ok1I _) ?_)
   exact fin _ (by unfold instE;rw [if_neg (by omega),if_neg (by omega),if_neg (by omega),if_pos (by assumption)];rfl)
  ·refine VOK_lt (run_len38 _) rfl ?_
   (refine it_c rfl rfl (λh=>?_) (λh=>?_)<;>simp only [Cmp,Decidable.not_not,Int.not_lt,Int.not_le]at h<;>try (exfalso;first|exact h trivial|omega))
   refine VOK_lt (r:=.vptr (encX (.mk y1 y2 y3 y4 y5 y6 y7 y8 y9 y10)++encXs r)) rfl (by show okL _=true;exact encL_ok.okL_join (okX _) (okXs _)) ?_
   refine VOK_lt (r:=.vptr ([.int .i64 y2,.str y3,.str y4,.int .i64 y5,.int .i64 y6,.int .i64 y7,.int .i64 y8,.flt .f64 y9,encA y10]++encXs r)) rfl (by show okL _=true;exact encL_ok.okL_join (by simp only [okC,okL,okA]) (okXs _)) (VOK_lt (r:=.int .i64 y2) rfl rfl ?_)
   (
    refine callF' (p22 _ (ins op y2 0 0) (by omega)) rfl (okIG _ _) ⟨?_,trivial⟩
    rintro ws rfl
    refine VOK_fin (ok1I _) ?_)
   exact fin _ (by unfold instE;rw [if_neg (by omega),if_neg (by omega),if_neg (by omega),if_neg (by assumption)];rfl)
end Go.Proofs.Ytjconanknjgpnaa.vars
set_option maxRecDepth 100000
set_option linter.unusedVariables false
set_option linter.unusedSimpArgs false
namespace Go.Sx
section
variable {P:Program} {t:TypeId} {ti:TypeInfo} {α:Type} {enc:α->List AV} {w:Nat}
theorem idx_nat {m n:Nat} (h:m<n):Sx.idx (m:Int) n=some m:=by
 show (match Nat.blt m n with|true=>some m|false=>none)=some m
 have hb:Nat.blt m n=true:=by simpa [Nat.blt_eq]using h
 rw [hb]
theorem run_flat {sz off es ln n m:Nat} {k k':IntKind} (h:m<ln):(XOp.flat sz off es ln).run P [.int k (n:Int),.int k' (m:Int)]=some (.int .i64 ((n*sz+off+m*es:Nat):Int)):=by
 show (match Sx.idx (m:Int) ln with|some m=>some (AV.int .i64 (.ofNat (Nat.add (Nat.add (Nat.mul n sz) off) (Nat.mul m es))))|none=>none)=_
 rw [idx_nat h];rfl
theorem run_inbv {l:List α} {i:Nat} (hi:i<l.length) (k:IntKind):(XOp.inb).run P [vslOf enc w l,.int k (i:Int)]=some (.int .i64 (i:Int)):=by
 show (match Sx.idx (i:Int) l.length with|some n=>some (AV.int .i64 (.ofNat n))|none=>none)=_
 rw [idx_nat hi];rfl
theorem run_ldq {d:TypeDesc} (ht:P.underlying t=some d) (ha:aggB d=false) (hw:∀a,(enc a).length=w) {l:List α} {i off:Nat} (hi:i<l.length) {v:AV} (he:(enc l[i])[off]? =some v) {q:Nat} (hq:q=i*w+off) (k:IntKind):(XOp.ldx t 1 0).run P [vslOf enc w l,.int k (q:Int)]=some v:=by
 obtain ⟨a,b,e1,e2,_⟩:=cut_at hw l hi
 subst hq
 show evLoad P (row0 (encL enc l)) t (.ptr 0 ((i*w+off)*1+0))=_
 unfold evLoad
 simp only [ht,ha]
 have hg:(row0 (encL enc l)).get 0=some (.cells (encL enc l)):=rfl
 unfold cellsAt
 simp only [hg]
 obtain ⟨ho,hv⟩:=List.getElem?_eq_some_iff.1 he
 have hd:dropA ((i*w+off)*1+0) (encL enc l)=v::((enc l[i]).drop (off+1)++b):=by
  rw [dropA_eq,e1,Nat.mul_one,Nat.add_zero,←e2,List.drop_append,List.drop_eq_nil_of_le (by omega),List.nil_append,Nat.add_sub_cancel_left,List.drop_append_of_le_length (by omega),List.drop_eq_getElem_cons ho,hv]
  rfl
 rw [hd]
 rfl
theorem run_stq (hw:∀a,(enc a).length=w) {l:List α} {i off:Nat} (hi:i<l.length) {b:Bool} {y:α} (hinf:P.info? t=some ti) (hs:ti.size=1) (hoff:off<w) (hy:enc y=(enc l[i]).set off (.bool b)) {q:Nat} (hq:q=i*w+off) (k:IntKind):
  (XOp.stx t 1 0).run P [vslOf enc w l,.int k (q:Int),.bool b]=some (vslOf enc w (l.set i y)):=by
 obtain ⟨a,r,e1,e2,e3⟩:=cut_at hw l hi
 subst hq
 have hl:=hw l[i]
 have hst:evStore P (row0 (encL enc l)) t (.ptr 0 ((i*w+off)*1+0)) (.bool b)=some (.tup [],(row0 (encL enc l)).set 0 (.cells (encL enc (l.set i y)))):=by
  have hg:(row0 (encL enc l)).get 0=some (.cells (encL enc l)):=rfl
  have hsa:setAt ((i*w+off)*1+0) [.bool b] (encL enc l)=some (encL enc (l.set i y)):=by
   obtain ⟨p,c,s,hps,hpl⟩:∃p c s,enc l[i]=p++c::s/\p.length=off:=⟨(enc l[i]).take off,(enc l[i])[off]'(by omega),(enc l[i]).drop (off+1),by rw [List.getElem_cons_drop,List.take_append_drop],by rw [List.length_take];omega⟩
   have h1:=setAt_app (a++p) [.bool b] [c] (s++r) rfl
   rw [List.length_append,e2,hpl]at h1
   have hy2:enc y=p++ .bool b::s:=by rw [hy,hps,←hpl];simp
   rw [Nat.mul_one,Nat.add_zero,e1,e3,hy2,hps]
   have e4:a++(p++c::s++r)=a++p++([c]++(s++r)):=by simp only [List.append_assoc,List.cons_append,List.nil_append]
   rw [e4,h1]
   simp only [List.append_assoc,List.cons_append,List.nil_append]
  have hb:Nat.beq [AV.bool b].length ti.size=true:=by rw [hs];rfl
  have h1:allOne [AV.bool b]=true:=rfl
  have hc:(AV.bool b).cells=[.bool b]:=rfl
  simp only [evStore,hinf]
  simp only [hc,hb,h1,hg,hsa]
 show (match evStore P (row0 (encL enc l)) t (.ptr 0 (Nat.add (Nat.mul (i*w+off) 1) 0)) (.bool b)with
  |some r=>match r.2.get 0 with
   |some (.cells cs')=>some (AV.vsl l.length w cs')
   |_=>none
  |none=>none)=_
 have e6:Nat.add (Nat.mul (i*w+off) 1) 0=(i*w+off)*1+0:=rfl
 rw [e6,hst]
 have hg2:∀c:List AV,((row0 (encL enc l)).set 0 (.cells c)).get 0=some (.cells c):=λc=>rfl
 simp only [hg2]
 show _=some (AV.vsl (l.set i y).length w _)
 rw [List.length_set]
theorem run_skx1 (hw:∀a,(enc a).length=w) (x:α) (l:List α) {k:IntKind}:XOp.skx.run P [vslOf enc w (x::l),.int k 1]=some (vslOf enc w l):=by
 show (match Nat.ble 1 (l.length+1)with|true=>some (AV.vsl (Nat.sub (l.length+1) 1) w (dropA (Nat.mul 1 w) (encL enc (x::l))))|false=>none)=_
 have hb:Nat.ble 1 (l.length+1)=true:=Nat.ble_eq_true_of_le (by omega)
 have hd:dropA (Nat.mul 1 w) (encL enc (x::l))=encL enc l:=by
  have e:Nat.mul 1 w=(enc x).length:=by rw [hw];exact Nat.one_mul w
  rw [dropA_eq,e]
  show (enc x++encL enc l).drop _=_
  rw [List.drop_left]
 rw [hb,hd];rfl
theorem run_app1v {sz bytes:Nat} (hw:∀a,(enc a).length=sz) (hsz:0<sz) (hb:0<bytes) (l:List α) (x:α) (hl:(l.length+1)*bytes<=1073741824):(XOp.app sz bytes).run P [vslOf enc sz l,.agg (enc x)]=some (vslOf enc sz (l++[x])):=by
 have hl1:l.length+1<=1073741824:=Nat.le_trans (Nat.le_mul_of_pos_right _ hb) hl
 show appV sz bytes (vslOf enc sz l) (Nat.div (lenA (enc x)) sz) (enc x)=_
 have hn:Nat.div (lenA (enc x)) sz=1:=by rw [lenA_eq,hw];exact Nat.div_self hsz
 rw [hn]
 unfold appV vslOf
 simp only [encL_length hw,hw,Nat.one_mul,and_self,decide_true]
 have e1:(Nat.ble (Nat.mul (Nat.add l.length 1) bytes) 1073741824&&Nat.ble (Nat.add l.length 1) 1073741824&&Nat.blt 0 bytes)=true:=by
  have h1:Nat.ble (Nat.mul (Nat.add l.length 1) bytes) 1073741824=true:=Nat.ble_eq_true_of_le hl
  have h2:Nat.ble (Nat.add l.length 1) 1073741824=true:=Nat.ble_eq_true_of_le hl1
  have h3:Nat.blt 0 bytes=true:=by simpa [Nat.blt_eq]using hb
  rw [h1,h2,h3];rfl
 simp only [e1,encL_append,List.length_append,List.length_cons,List.length_nil]
 have:encL enc [x]=enc x:=by show enc x++[]=_;rw [List.append_nil]
 rw [this]
theorem run_mkx {sz bytes:Nat} {zs:List AV} {x:α} (hx:enc x=zs) {n:Nat} (h1:bytes*n<=16777216) (h2:n<=16777216) {k:IntKind}:(XOp.mkx sz bytes zs).run P [.int k (n:Int)]=some (vslOf enc sz (List.replicate n x)):=by
 have b1:(Nat.ble (Nat.mul bytes n) 16777216&&Nat.ble n 16777216)=true:=by
  have q1:Nat.ble (Nat.mul bytes n) 16777216=true:=Nat.ble_eq_true_of_le h1
  have q2:Nat.ble n 16777216=true:=Nat.ble_eq_true_of_le h2
  rw [q1,q2];rfl
 show (match Nat.ble (Nat.mul bytes n) 16777216&&Nat.ble n 16777216 with|true=>some (AV.vsl n sz (repeatA zs n))|false=>none)=_
 rw [b1]
 have:∀n:Nat,repeatA zs n=encL enc (List.replicate n x):=by
  intro n
  induction n with
  |zero=>rfl
  |succ n ih=>rw [List.replicate_succ];show zs++repeatA zs n=enc x++encL enc (List.replicate n x);rw [ih,hx]
 show some (AV.vsl n sz _)=some (AV.vsl (List.replicate n x).length sz _)
 rw [List.length_replicate,this]
end
end Go.Sx
