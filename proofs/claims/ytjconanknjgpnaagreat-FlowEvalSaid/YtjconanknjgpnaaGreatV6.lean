/-
  The check of statements.
-/
import Derived.Test.YtjconanknjgpnaaGreatV5
import Derived.Test.YtjconanknjgpnaaGreatFA
import Derived.Test.YtjconanknjgpnaaGreatSyS
import Derived.Test.YtjconanknjgpnaaGreatWG
set_option maxRecDepth 100000
set_option linter.unusedVariables false
set_option linter.unusedSimpArgs false
namespace Go.Proofs.YtjconanknjgpnaaGreat.vars
open Go Go.Sx
def c119:VC:=⟨⟨[],[]⟩,[(153,[(some 10),none,none]),(154,[(some 10)])],[],0,true,[(121,ft121)]⟩
def t119:VT:=
 (.callF 121 ft121 [64,76,77,78,79,80,81,82,83,84,85] 92
 (.cons 11
 (.lt (.bin .neq 35 false true) [113,J 0] 114 none
 (.ite 114
 (.done (.tup [J 0,65,66,67,68,69,70,71,72,73,74,75,76,77,78,79,80,81,82,83,84,85,86,87,88,89,90,91,113]))
 (.callF 121 ft121 [64,66,67,68,69,70,71,72,73,74,75] 115
 (.cons 11
 (.lt (.bin .neq 35 false true) [136,J 0] 137 none
 (.ite 137
 (.done (.tup [J 0,65,66,67,68,69,70,71,72,73,74,75,76,77,78,79,80,81,82,83,84,85,86,87,88,89,90,91,136]))
 (.call 153 [64,68] 138 [(some 10),none,none]
 (.lt (.bin .neq 9 false true) [69,.str []] 150 none
 (.ite 150
 (.done (.tup [J 0,65,66,67,68,69,70,71,72,73,74,75,76,77,78,79,80,81,82,83,84,85,86,87,88,89,90,91,J 4]))
 (.lt (.bin .eql 3 false true) [139,J 1] 151 none
 (.ite 151
 (.done (.tup [J 0,65,66,67,68,69,70,71,72,73,74,75,76,77,78,79,80,81,82,83,84,85,86,87,88,89,90,91,J 13]))
 (.call 154 [.agg [103,104,105,106,107,108,109,110,111,112],127] 152 [(some 10)]
 (.lt (.bin .neq 3 false false) [153,127] 162 none
 (.ite 162
 (.done (.tup [J 0,65,66,67,68,69,70,71,72,73,74,75,76,77,78,79,80,81,82,83,84,85,86,87,88,89,90,91,J 4]))
 (.done (.tup [J 0,65,126,127,128,129,130,131,132,133,134,135,152,153,154,155,156,157,158,159,160,161,86,87,88,89,90,91,J 0]))))))))))))
 .nil))))
 .nil))
def c120:VC:=⟨⟨[],[]⟩,[(153,[(some 10),none,none]),(154,[(some 10)]),(53,[none])],[(0,[⟨[(4,.ptr 1 0),(3,.ptr 0 0),(9,.slx 3 1 0),(10,.slx 4 10 1),(11,.slx 2 0 0),(0,64),(7,102),(6,.ptr 2 0)],[(1,[J 0,J 0,J 0,.str [],.str [],J 0,J 0,J 0,J 0,.flt .f64 0,.nsl,J 0,J 0,.str [],.str [],J 0,J 0,J 0,J 0,.flt .f64 0,.nsl,.nsl,.nsl,.str [],J 0,J 0,.nsl]),(0,[65,66,67,68,69,70,71,72,73,74,75,76,77,78,79,80,81,82,83,84,85,86,87,88,89,90,91]),(2,[92,93,94,95,96,97,98,99,100,101])],5,3,[⟨3,1,0,9,none⟩,⟨4,10,1,10,none⟩],[],[]⟩]),(2,[⟨[(4,.ptr 1 0),(3,.ptr 0 0),(14,.slx 0 0 0),(9,.slx 3 1 1),(10,.slx 4 10 2),(6,.ptr 2 0),(7,102)],[(1,[J 0,J 0,J 0,.str [],.str [],J 0,J 0,J 0,J 0,.flt .f64 0,.nsl,J 0,J 0,.str [],.str [],J 0,J 0,J 0,J 0,.flt .f64 0,.nsl,.nsl,.nsl,.str [],J 0,J 0,.nsl]),(0,[65,66,67,68,69,70,71,72,73,74,75,76,77,78,79,80,81,82,83,84,85,86,87,88,89,90,91]),(2,[92,93,94,95,96,97,98,99,100,101])],5,3,[⟨3,1,1,9,none⟩,⟨4,10,2,10,none⟩],[],[]⟩])],0,true,[(121,ft121)]⟩
def t120:VT:=
 (.call 153 [64,88] 92 [(some 10),none,none]
 (.lt (.un .not) [103] 104 none
 (.ite 104
 (.done (.tup [J 0,65,66,67,68,69,70,71,72,73,74,75,76,77,78,79,80,81,82,83,84,85,86,87,88,89,90,91,J 3]))
 (.call 53 [94] 105 [none]
 (.lt (.bin .lss 3 false true) [105,J 2] 106 none
 (.ite 106
 (.done (.tup [J 0,65,66,67,68,69,70,71,72,73,74,75,76,77,78,79,80,81,82,83,84,85,86,87,88,89,90,91,J 4]))
 (.lt (.bin .eql 3 false true) [94,J 9] 107 none
 (.ite 107
 (.lt (.bin .eql 3 false true) [94,J 11] 108 none
 (.ite 108
 (.loop 109 0 [.vsl 1 1 [J 1],.nsl,J 0]
 (.cons 3
 (.lt (.len 47) [91] 112 none
 (.lt (.bin .lss 3 false false) [111,112] 113 none
 (.ite 113
 (.lt (.iaddr 47) [91,111] 114 none
 (.lt (.load 49) [114] 115 (some 10)
 (.callF 121 ft121 [64,115,116,117,118,119,120,121,122,123,124] 125
 (.cons 11
 (.lt (.bin .neq 35 false true) [146,J 0] 147 none
 (.ite 147
 (.done (.tup [J 0,65,66,67,68,69,70,71,72,73,74,75,76,77,78,79,80,81,82,83,84,85,86,87,88,89,90,91,146]))
 (.lt (.len 127) [109] 148 none
 (.lt (.bin .lss 3 false false) [111,148] 149 none
 (.ite 149
 (.lt .inb [109,111] 150 none
 (.lt (.ldx 3 1 0) [109,150] 151 none
 (.call 154 [.agg [136,137,138,139,140,141,142,143,144,145],151] 152 [(some 10)]
 (.lt (.app 10 112) [110,.agg [152,153,154,155,156,157,158,159,160,161]] 162 none
 (.lt (.bin .add 3 false true) [111,J 1] 163 none
 (.again 0 0 [109,162,163]))))))
 (.lt (.app 10 112) [110,.agg [136,137,138,139,140,141,142,143,144,145]] 150 none
 (.lt (.bin .add 3 false true) [111,J 1] 151 none
 (.again 0 0 [109,150,151]))))))))
 .nil))))
 (.lt (.len 47) [110] 114 none
 (.lt (.len 127) [109] 115 none
 (.lt (.bin .neq 3 false false) [114,115] 116 none
 (.ite 116
 (.done (.tup [J 0,65,66,67,68,69,70,71,72,73,74,75,76,77,78,79,80,81,82,83,84,85,86,87,88,89,90,91,J 4]))
 (.loop 117 0 [J 0,109,110]
 (.cons 3
 (.lt (.len 127) [118] 120 none
 (.lt (.bin .lss 3 false false) [117,120] 121 none
 (.ite 121
 (.lt .inb [119,117] 122 none
 (.lt (.ldx 3 10 1) [119,122] 123 none
 (.lt .inb [118,117] 124 none
 (.lt (.ldx 3 1 0) [118,124] 125 none
 (.lt (.bin .neq 3 false false) [123,125] 126 none
 (.ite 126
 (.done (.tup [J 0,65,66,67,68,69,70,71,72,73,74,75,76,77,78,79,80,81,82,83,84,85,86,87,88,89,90,91,J 4]))
 (.lt (.bin .add 3 false true) [117,J 1] 127 none
 (.again 1 0 [127,118,119]))))))))
 (.done (.tup [J 0,65,66,67,68,69,70,71,72,73,74,75,76,77,78,79,80,81,82,83,84,85,86,87,88,94,102,119,J 0])))))
 .nil)))))))))
 .nil))
 (.lt (.bin .eql 3 false true) [94,J 12] 109 none
 (.ite 109
 (.loop 110 0 [.vsl 1 1 [J 1],.nsl,J 0]
 (.cons 3
 (.lt (.len 47) [91] 113 none
 (.lt (.bin .lss 3 false false) [112,113] 114 none
 (.ite 114
 (.lt (.iaddr 47) [91,112] 115 none
 (.lt (.load 49) [115] 116 (some 10)
 (.callF 121 ft121 [64,116,117,118,119,120,121,122,123,124,125] 126
 (.cons 11
 (.lt (.bin .neq 35 false true) [147,J 0] 148 none
 (.ite 148
 (.done (.tup [J 0,65,66,67,68,69,70,71,72,73,74,75,76,77,78,79,80,81,82,83,84,85,86,87,88,89,90,91,147]))
 (.lt (.len 127) [110] 149 none
 (.lt (.bin .lss 3 false false) [112,149] 150 none
 (.ite 150
 (.lt .inb [110,112] 151 none
 (.lt (.ldx 3 1 0) [110,151] 152 none
 (.call 154 [.agg [137,138,139,140,141,142,143,144,145,146],152] 153 [(some 10)]
 (.lt (.app 10 112) [111,.agg [153,154,155,156,157,158,159,160,161,162]] 163 none
 (.lt (.bin .add 3 false true) [112,J 1] 164 none
 (.again 0 0 [110,163,164]))))))
 (.lt (.app 10 112) [111,.agg [137,138,139,140,141,142,143,144,145,146]] 151 none
 (.lt (.bin .add 3 false true) [112,J 1] 152 none
 (.again 0 0 [110,151,152]))))))))
 .nil))))
 (.lt (.len 47) [111] 115 none
 (.lt (.len 127) [110] 116 none
 (.lt (.bin .neq 3 false false) [115,116] 117 none
 (.ite 117
 (.done (.tup [J 0,65,66,67,68,69,70,71,72,73,74,75,76,77,78,79,80,81,82,83,84,85,86,87,88,89,90,91,J 4]))
 (.loop 118 0 [J 0,110,111]
 (.cons 3
 (.lt (.len 127) [119] 121 none
 (.lt (.bin .lss 3 false false) [118,121] 122 none
 (.ite 122
 (.lt .inb [120,118] 123 none
 (.lt (.ldx 3 10 1) [120,123] 124 none
 (.lt .inb [119,118] 125 none
 (.lt (.ldx 3 1 0) [119,125] 126 none
 (.lt (.bin .neq 3 false false) [124,126] 127 none
 (.ite 127
 (.done (.tup [J 0,65,66,67,68,69,70,71,72,73,74,75,76,77,78,79,80,81,82,83,84,85,86,87,88,89,90,91,J 4]))
 (.lt (.bin .add 3 false true) [118,J 1] 128 none
 (.again 1 0 [128,119,120]))))))))
 (.done (.tup [J 0,65,66,67,68,69,70,71,72,73,74,75,76,77,78,79,80,81,82,83,84,85,86,87,88,94,102,120,J 0])))))
 .nil)))))))))
 .nil))
 (.loop 110 0 [.vsl 2 1 [J 1,J 2],.nsl,J 0]
 (.cons 3
 (.lt (.len 47) [91] 113 none
 (.lt (.bin .lss 3 false false) [112,113] 114 none
 (.ite 114
 (.lt (.iaddr 47) [91,112] 115 none
 (.lt (.load 49) [115] 116 (some 10)
 (.callF 121 ft121 [64,116,117,118,119,120,121,122,123,124,125] 126
 (.cons 11
 (.lt (.bin .neq 35 false true) [147,J 0] 148 none
 (.ite 148
 (.done (.tup [J 0,65,66,67,68,69,70,71,72,73,74,75,76,77,78,79,80,81,82,83,84,85,86,87,88,89,90,91,147]))
 (.lt (.len 127) [110] 149 none
 (.lt (.bin .lss 3 false false) [112,149] 150 none
 (.ite 150
 (.lt .inb [110,112] 151 none
 (.lt (.ldx 3 1 0) [110,151] 152 none
 (.call 154 [.agg [137,138,139,140,141,142,143,144,145,146],152] 153 [(some 10)]
 (.lt (.app 10 112) [111,.agg [153,154,155,156,157,158,159,160,161,162]] 163 none
 (.lt (.bin .add 3 false true) [112,J 1] 164 none
 (.again 0 0 [110,163,164]))))))
 (.lt (.app 10 112) [111,.agg [137,138,139,140,141,142,143,144,145,146]] 151 none
 (.lt (.bin .add 3 false true) [112,J 1] 152 none
 (.again 0 0 [110,151,152]))))))))
 .nil))))
 (.lt (.len 47) [111] 115 none
 (.lt (.len 127) [110] 116 none
 (.lt (.bin .neq 3 false false) [115,116] 117 none
 (.ite 117
 (.done (.tup [J 0,65,66,67,68,69,70,71,72,73,74,75,76,77,78,79,80,81,82,83,84,85,86,87,88,89,90,91,J 4]))
 (.loop 118 0 [J 0,110,111]
 (.cons 3
 (.lt (.len 127) [119] 121 none
 (.lt (.bin .lss 3 false false) [118,121] 122 none
 (.ite 122
 (.lt .inb [120,118] 123 none
 (.lt (.ldx 3 10 1) [120,123] 124 none
 (.lt .inb [119,118] 125 none
 (.lt (.ldx 3 1 0) [119,125] 126 none
 (.lt (.bin .neq 3 false false) [124,126] 127 none
 (.ite 127
 (.done (.tup [J 0,65,66,67,68,69,70,71,72,73,74,75,76,77,78,79,80,81,82,83,84,85,86,87,88,89,90,91,J 4]))
 (.lt (.bin .add 3 false true) [118,J 1] 128 none
 (.again 1 0 [128,119,120]))))))))
 (.done (.tup [J 0,65,66,67,68,69,70,71,72,73,74,75,76,77,78,79,80,81,82,83,84,85,86,87,88,94,102,120,J 0])))))
 .nil)))))))))
 .nil))))))
 (.lt (.bin .eql 3 false true) [94,J 10] 108 none
 (.ite 108
 (.lt (.bin .eql 3 false true) [94,J 11] 109 none
 (.ite 109
 (.loop 110 0 [.vsl 1 1 [J 1],.nsl,J 0]
 (.cons 3
 (.lt (.len 47) [91] 113 none
 (.lt (.bin .lss 3 false false) [112,113] 114 none
 (.ite 114
 (.lt (.iaddr 47) [91,112] 115 none
 (.lt (.load 49) [115] 116 (some 10)
 (.callF 121 ft121 [64,116,117,118,119,120,121,122,123,124,125] 126
 (.cons 11
 (.lt (.bin .neq 35 false true) [147,J 0] 148 none
 (.ite 148
 (.done (.tup [J 0,65,66,67,68,69,70,71,72,73,74,75,76,77,78,79,80,81,82,83,84,85,86,87,88,89,90,91,147]))
 (.lt (.len 127) [110] 149 none
 (.lt (.bin .lss 3 false false) [112,149] 150 none
 (.ite 150
 (.lt .inb [110,112] 151 none
 (.lt (.ldx 3 1 0) [110,151] 152 none
 (.call 154 [.agg [137,138,139,140,141,142,143,144,145,146],152] 153 [(some 10)]
 (.lt (.app 10 112) [111,.agg [153,154,155,156,157,158,159,160,161,162]] 163 none
 (.lt (.bin .add 3 false true) [112,J 1] 164 none
 (.again 0 0 [110,163,164]))))))
 (.lt (.app 10 112) [111,.agg [137,138,139,140,141,142,143,144,145,146]] 151 none
 (.lt (.bin .add 3 false true) [112,J 1] 152 none
 (.again 0 0 [110,151,152]))))))))
 .nil))))
 (.lt (.len 47) [111] 115 none
 (.lt (.len 127) [110] 116 none
 (.lt (.bin .neq 3 false false) [115,116] 117 none
 (.ite 117
 (.done (.tup [J 0,65,66,67,68,69,70,71,72,73,74,75,76,77,78,79,80,81,82,83,84,85,86,87,88,89,90,91,J 4]))
 (.loop 118 0 [J 0,110,111]
 (.cons 3
 (.lt (.len 127) [119] 121 none
 (.lt (.bin .lss 3 false false) [118,121] 122 none
 (.ite 122
 (.lt .inb [120,118] 123 none
 (.lt (.ldx 3 10 1) [120,123] 124 none
 (.lt .inb [119,118] 125 none
 (.lt (.ldx 3 1 0) [119,125] 126 none
 (.lt (.bin .neq 3 false false) [124,126] 127 none
 (.ite 127
 (.done (.tup [J 0,65,66,67,68,69,70,71,72,73,74,75,76,77,78,79,80,81,82,83,84,85,86,87,88,89,90,91,J 4]))
 (.lt (.bin .add 3 false true) [118,J 1] 128 none
 (.again 1 0 [128,119,120]))))))))
 (.done (.tup [J 0,65,66,67,68,69,70,71,72,73,74,75,76,77,78,79,80,81,82,83,84,85,86,87,88,94,102,120,J 0])))))
 .nil)))))))))
 .nil))
 (.lt (.bin .eql 3 false true) [94,J 12] 110 none
 (.ite 110
 (.loop 111 0 [.vsl 1 1 [J 1],.nsl,J 0]
 (.cons 3
 (.lt (.len 47) [91] 114 none
 (.lt (.bin .lss 3 false false) [113,114] 115 none
 (.ite 115
 (.lt (.iaddr 47) [91,113] 116 none
 (.lt (.load 49) [116] 117 (some 10)
 (.callF 121 ft121 [64,117,118,119,120,121,122,123,124,125,126] 127
 (.cons 11
 (.lt (.bin .neq 35 false true) [148,J 0] 149 none
 (.ite 149
 (.done (.tup [J 0,65,66,67,68,69,70,71,72,73,74,75,76,77,78,79,80,81,82,83,84,85,86,87,88,89,90,91,148]))
 (.lt (.len 127) [111] 150 none
 (.lt (.bin .lss 3 false false) [113,150] 151 none
 (.ite 151
 (.lt .inb [111,113] 152 none
 (.lt (.ldx 3 1 0) [111,152] 153 none
 (.call 154 [.agg [138,139,140,141,142,143,144,145,146,147],153] 154 [(some 10)]
 (.lt (.app 10 112) [112,.agg [154,155,156,157,158,159,160,161,162,163]] 164 none
 (.lt (.bin .add 3 false true) [113,J 1] 165 none
 (.again 0 0 [111,164,165]))))))
 (.lt (.app 10 112) [112,.agg [138,139,140,141,142,143,144,145,146,147]] 152 none
 (.lt (.bin .add 3 false true) [113,J 1] 153 none
 (.again 0 0 [111,152,153]))))))))
 .nil))))
 (.lt (.len 47) [112] 116 none
 (.lt (.len 127) [111] 117 none
 (.lt (.bin .neq 3 false false) [116,117] 118 none
 (.ite 118
 (.done (.tup [J 0,65,66,67,68,69,70,71,72,73,74,75,76,77,78,79,80,81,82,83,84,85,86,87,88,89,90,91,J 4]))
 (.loop 119 0 [J 0,111,112]
 (.cons 3
 (.lt (.len 127) [120] 122 none
 (.lt (.bin .lss 3 false false) [119,122] 123 none
 (.ite 123
 (.lt .inb [121,119] 124 none
 (.lt (.ldx 3 10 1) [121,124] 125 none
 (.lt .inb [120,119] 126 none
 (.lt (.ldx 3 1 0) [120,126] 127 none
 (.lt (.bin .neq 3 false false) [125,127] 128 none
 (.ite 128
 (.done (.tup [J 0,65,66,67,68,69,70,71,72,73,74,75,76,77,78,79,80,81,82,83,84,85,86,87,88,89,90,91,J 4]))
 (.lt (.bin .add 3 false true) [119,J 1] 129 none
 (.again 1 0 [129,120,121]))))))))
 (.done (.tup [J 0,65,66,67,68,69,70,71,72,73,74,75,76,77,78,79,80,81,82,83,84,85,86,87,88,94,102,121,J 0])))))
 .nil)))))))))
 .nil))
 (.loop 111 0 [.vsl 2 1 [J 1,J 2],.nsl,J 0]
 (.cons 3
 (.lt (.len 47) [91] 114 none
 (.lt (.bin .lss 3 false false) [113,114] 115 none
 (.ite 115
 (.lt (.iaddr 47) [91,113] 116 none
 (.lt (.load 49) [116] 117 (some 10)
 (.callF 121 ft121 [64,117,118,119,120,121,122,123,124,125,126] 127
 (.cons 11
 (.lt (.bin .neq 35 false true) [148,J 0] 149 none
 (.ite 149
 (.done (.tup [J 0,65,66,67,68,69,70,71,72,73,74,75,76,77,78,79,80,81,82,83,84,85,86,87,88,89,90,91,148]))
 (.lt (.len 127) [111] 150 none
 (.lt (.bin .lss 3 false false) [113,150] 151 none
 (.ite 151
 (.lt .inb [111,113] 152 none
 (.lt (.ldx 3 1 0) [111,152] 153 none
 (.call 154 [.agg [138,139,140,141,142,143,144,145,146,147],153] 154 [(some 10)]
 (.lt (.app 10 112) [112,.agg [154,155,156,157,158,159,160,161,162,163]] 164 none
 (.lt (.bin .add 3 false true) [113,J 1] 165 none
 (.again 0 0 [111,164,165]))))))
 (.lt (.app 10 112) [112,.agg [138,139,140,141,142,143,144,145,146,147]] 152 none
 (.lt (.bin .add 3 false true) [113,J 1] 153 none
 (.again 0 0 [111,152,153]))))))))
 .nil))))
 (.lt (.len 47) [112] 116 none
 (.lt (.len 127) [111] 117 none
 (.lt (.bin .neq 3 false false) [116,117] 118 none
 (.ite 118
 (.done (.tup [J 0,65,66,67,68,69,70,71,72,73,74,75,76,77,78,79,80,81,82,83,84,85,86,87,88,89,90,91,J 4]))
 (.loop 119 0 [J 0,111,112]
 (.cons 3
 (.lt (.len 127) [120] 122 none
 (.lt (.bin .lss 3 false false) [119,122] 123 none
 (.ite 123
 (.lt .inb [121,119] 124 none
 (.lt (.ldx 3 10 1) [121,124] 125 none
 (.lt .inb [120,119] 126 none
 (.lt (.ldx 3 1 0) [120,126] 127 none
 (.lt (.bin .neq 3 false false) [125,127] 128 none
 (.ite 128
 (.done (.tup [J 0,65,66,67,68,69,70,71,72,73,74,75,76,77,78,79,80,81,82,83,84,85,86,87,88,89,90,91,J 4]))
 (.lt (.bin .add 3 false true) [119,J 1] 129 none
 (.again 1 0 [129,120,121]))))))))
 (.done (.tup [J 0,65,66,67,68,69,70,71,72,73,74,75,76,77,78,79,80,81,82,83,84,85,86,87,88,94,102,121,J 0])))))
 .nil)))))))))
 .nil))))))
 (.lt (.bin .eql 3 false true) [94,J 11] 109 none
 (.ite 109
 (.loop 110 0 [.vsl 1 1 [J 1],.nsl,J 0]
 (.cons 3
 (.lt (.len 47) [91] 113 none
 (.lt (.bin .lss 3 false false) [112,113] 114 none
 (.ite 114
 (.lt (.iaddr 47) [91,112] 115 none
 (.lt (.load 49) [115] 116 (some 10)
 (.callF 121 ft121 [64,116,117,118,119,120,121,122,123,124,125] 126
 (.cons 11
 (.lt (.bin .neq 35 false true) [147,J 0] 148 none
 (.ite 148
 (.done (.tup [J 0,65,66,67,68,69,70,71,72,73,74,75,76,77,78,79,80,81,82,83,84,85,86,87,88,89,90,91,147]))
 (.lt (.len 127) [110] 149 none
 (.lt (.bin .lss 3 false false) [112,149] 150 none
 (.ite 150
 (.lt .inb [110,112] 151 none
 (.lt (.ldx 3 1 0) [110,151] 152 none
 (.call 154 [.agg [137,138,139,140,141,142,143,144,145,146],152] 153 [(some 10)]
 (.lt (.app 10 112) [111,.agg [153,154,155,156,157,158,159,160,161,162]] 163 none
 (.lt (.bin .add 3 false true) [112,J 1] 164 none
 (.again 0 0 [110,163,164]))))))
 (.lt (.app 10 112) [111,.agg [137,138,139,140,141,142,143,144,145,146]] 151 none
 (.lt (.bin .add 3 false true) [112,J 1] 152 none
 (.again 0 0 [110,151,152]))))))))
 .nil))))
 (.lt (.len 47) [111] 115 none
 (.lt (.len 127) [110] 116 none
 (.lt (.bin .neq 3 false false) [115,116] 117 none
 (.ite 117
 (.done (.tup [J 0,65,66,67,68,69,70,71,72,73,74,75,76,77,78,79,80,81,82,83,84,85,86,87,88,89,90,91,J 4]))
 (.loop 118 0 [J 0,110,111]
 (.cons 3
 (.lt (.len 127) [119] 121 none
 (.lt (.bin .lss 3 false false) [118,121] 122 none
 (.ite 122
 (.lt .inb [120,118] 123 none
 (.lt (.ldx 3 10 1) [120,123] 124 none
 (.lt .inb [119,118] 125 none
 (.lt (.ldx 3 1 0) [119,125] 126 none
 (.lt (.bin .neq 3 false false) [124,126] 127 none
 (.ite 127
 (.done (.tup [J 0,65,66,67,68,69,70,71,72,73,74,75,76,77,78,79,80,81,82,83,84,85,86,87,88,89,90,91,J 4]))
 (.lt (.bin .add 3 false true) [118,J 1] 128 none
 (.again 1 0 [128,119,120]))))))))
 (.done (.tup [J 0,65,66,67,68,69,70,71,72,73,74,75,76,77,78,79,80,81,82,83,84,85,86,87,88,94,102,120,J 0])))))
 .nil)))))))))
 .nil))
 (.lt (.bin .eql 3 false true) [94,J 12] 110 none
 (.ite 110
 (.loop 111 0 [.vsl 1 1 [J 1],.nsl,J 0]
 (.cons 3
 (.lt (.len 47) [91] 114 none
 (.lt (.bin .lss 3 false false) [113,114] 115 none
 (.ite 115
 (.lt (.iaddr 47) [91,113] 116 none
 (.lt (.load 49) [116] 117 (some 10)
 (.callF 121 ft121 [64,117,118,119,120,121,122,123,124,125,126] 127
 (.cons 11
 (.lt (.bin .neq 35 false true) [148,J 0] 149 none
 (.ite 149
 (.done (.tup [J 0,65,66,67,68,69,70,71,72,73,74,75,76,77,78,79,80,81,82,83,84,85,86,87,88,89,90,91,148]))
 (.lt (.len 127) [111] 150 none
 (.lt (.bin .lss 3 false false) [113,150] 151 none
 (.ite 151
 (.lt .inb [111,113] 152 none
 (.lt (.ldx 3 1 0) [111,152] 153 none
 (.call 154 [.agg [138,139,140,141,142,143,144,145,146,147],153] 154 [(some 10)]
 (.lt (.app 10 112) [112,.agg [154,155,156,157,158,159,160,161,162,163]] 164 none
 (.lt (.bin .add 3 false true) [113,J 1] 165 none
 (.again 0 0 [111,164,165]))))))
 (.lt (.app 10 112) [112,.agg [138,139,140,141,142,143,144,145,146,147]] 152 none
 (.lt (.bin .add 3 false true) [113,J 1] 153 none
 (.again 0 0 [111,152,153]))))))))
 .nil))))
 (.lt (.len 47) [112] 116 none
 (.lt (.len 127) [111] 117 none
 (.lt (.bin .neq 3 false false) [116,117] 118 none
 (.ite 118
 (.done (.tup [J 0,65,66,67,68,69,70,71,72,73,74,75,76,77,78,79,80,81,82,83,84,85,86,87,88,89,90,91,J 4]))
 (.loop 119 0 [J 0,111,112]
 (.cons 3
 (.lt (.len 127) [120] 122 none
 (.lt (.bin .lss 3 false false) [119,122] 123 none
 (.ite 123
 (.lt .inb [121,119] 124 none
 (.lt (.ldx 3 10 1) [121,124] 125 none
 (.lt .inb [120,119] 126 none
 (.lt (.ldx 3 1 0) [120,126] 127 none
 (.lt (.bin .neq 3 false false) [125,127] 128 none
 (.ite 128
 (.done (.tup [J 0,65,66,67,68,69,70,71,72,73,74,75,76,77,78,79,80,81,82,83,84,85,86,87,88,89,90,91,J 4]))
 (.lt (.bin .add 3 false true) [119,J 1] 129 none
 (.again 1 0 [129,120,121]))))))))
 (.done (.tup [J 0,65,66,67,68,69,70,71,72,73,74,75,76,77,78,79,80,81,82,83,84,85,86,87,88,94,102,121,J 0])))))
 .nil)))))))))
 .nil))
 (.loop 111 0 [.vsl 2 1 [J 1,J 4],.nsl,J 0]
 (.cons 3
 (.lt (.len 47) [91] 114 none
 (.lt (.bin .lss 3 false false) [113,114] 115 none
 (.ite 115
 (.lt (.iaddr 47) [91,113] 116 none
 (.lt (.load 49) [116] 117 (some 10)
 (.callF 121 ft121 [64,117,118,119,120,121,122,123,124,125,126] 127
 (.cons 11
 (.lt (.bin .neq 35 false true) [148,J 0] 149 none
 (.ite 149
 (.done (.tup [J 0,65,66,67,68,69,70,71,72,73,74,75,76,77,78,79,80,81,82,83,84,85,86,87,88,89,90,91,148]))
 (.lt (.len 127) [111] 150 none
 (.lt (.bin .lss 3 false false) [113,150] 151 none
 (.ite 151
 (.lt .inb [111,113] 152 none
 (.lt (.ldx 3 1 0) [111,152] 153 none
 (.call 154 [.agg [138,139,140,141,142,143,144,145,146,147],153] 154 [(some 10)]
 (.lt (.app 10 112) [112,.agg [154,155,156,157,158,159,160,161,162,163]] 164 none
 (.lt (.bin .add 3 false true) [113,J 1] 165 none
 (.again 0 0 [111,164,165]))))))
 (.lt (.app 10 112) [112,.agg [138,139,140,141,142,143,144,145,146,147]] 152 none
 (.lt (.bin .add 3 false true) [113,J 1] 153 none
 (.again 0 0 [111,152,153]))))))))
 .nil))))
 (.lt (.len 47) [112] 116 none
 (.lt (.len 127) [111] 117 none
 (.lt (.bin .neq 3 false false) [116,117] 118 none
 (.ite 118
 (.done (.tup [J 0,65,66,67,68,69,70,71,72,73,74,75,76,77,78,79,80,81,82,83,84,85,86,87,88,89,90,91,J 4]))
 (.loop 119 0 [J 0,111,112]
 (.cons 3
 (.lt (.len 127) [120] 122 none
 (.lt (.bin .lss 3 false false) [119,122] 123 none
 (.ite 123
 (.lt .inb [121,119] 124 none
 (.lt (.ldx 3 10 1) [121,124] 125 none
 (.lt .inb [120,119] 126 none
 (.lt (.ldx 3 1 0) [120,126] 127 none
 (.lt (.bin .neq 3 false false) [125,127] 128 none
 (.ite 128
 (.done (.tup [J 0,65,66,67,68,69,70,71,72,73,74,75,76,77,78,79,80,81,82,83,84,85,86,87,88,89,90,91,J 4]))
 (.lt (.bin .add 3 false true) [119,J 1] 129 none
 (.again 1 0 [129,120,121]))))))))
 (.done (.tup [J 0,65,66,67,68,69,70,71,72,73,74,75,76,77,78,79,80,81,82,83,84,85,86,87,88,94,102,121,J 0])))))
 .nil)))))))))
 .nil))))))))))))))))
def c78:VC:=⟨⟨[],[]⟩,[],[],0,true,[(121,ft121),(119,ft119),(120,ft120),(46,ft46)]⟩
def t78:VT:=
 (.lt (.bin .eql 3 false true) [65,J 1] 92 none
 (.ite 92
 (.callF 119 ft119 [64,65,66,67,68,69,70,71,72,73,74,75,76,77,78,79,80,81,82,83,84,85,86,87,88,89,90,91] 93
 (.cons 28
 (.done (.tup [J 0,121,122,123,124,125,126,127,128,129,130,131,132,133,134,135,136,137,138,139,140,141,142,143,144,145,146,147,148]))
 .nil))
 (.lt (.bin .eql 3 false true) [65,J 4] 93 none
 (.ite 93
 (.callF 120 ft120 [64,65,66,67,68,69,70,71,72,73,74,75,76,77,78,79,80,81,82,83,84,85,86,87,88,89,90,91] 94
 (.cons 28
 (.done (.tup [J 0,122,123,124,125,126,127,128,129,130,131,132,133,134,135,136,137,138,139,140,141,142,143,144,145,146,147,148,149]))
 .nil))
 (.callF 121 ft121 [64,76,77,78,79,80,81,82,83,84,85] 94
 (.cons 11
 (.lt (.bin .neq 35 false true) [115,J 0] 116 none
 (.ite 116
 (.done (.tup [J 0,65,66,67,68,69,70,71,72,73,74,75,76,77,78,79,80,81,82,83,84,85,86,87,88,89,90,91,115]))
 (.lt (.bin .neq 3 false true) [106,J 1] 117 none
 (.ite 117
 (.done (.tup [J 0,65,66,67,68,69,70,71,72,73,74,75,76,77,78,79,80,81,82,83,84,85,86,87,88,89,90,91,J 4]))
 (.callF 46 ft46 [64,86] 118
 (.cons 2
 (.lt (.bin .neq 35 false true) [121,J 0] 122 none
 (.ite 122
 (.done (.tup [J 0,65,66,67,68,69,70,71,72,73,74,75,105,106,107,108,109,110,111,112,113,114,120,87,88,89,90,91,121]))
 (.callF 46 ft46 [64,87] 123
 (.cons 2
 (.done (.tup [J 0,65,66,67,68,69,70,71,72,73,74,75,105,106,107,108,109,110,111,112,113,114,120,125,88,89,90,91,126]))
 .nil))))
 .nil))))))
 .nil))))))
def c46:VC:=⟨⟨[],[]⟩,[],[(0,[⟨[(6,.slx 0 27 0),(7,.slx 1 0 0),(1,65),(0,64)],[],1,2,[⟨0,27,0,6,none⟩],[],[]⟩])],0,true,[(78,ft78)]⟩
def t46:VT:=
 (.loop 66 0 [.nsl,J 0]
 (.cons 2
 (.lt (.len 26) [65] 68 none
 (.lt (.bin .lss 3 false false) [67,68] 69 none
 (.ite 69
 (.lt (.iaddr 26) [65,67] 70 none
 (.lt (.load 52) [70] 71 (some 27)
 (.callF 78 ft78 [64,71,72,73,74,75,76,77,78,79,80,81,82,83,84,85,86,87,88,89,90,91,92,93,94,95,96,97] 98
 (.cons 28
 (.lt (.bin .neq 35 false true) [153,J 0] 154 none
 (.ite 154
 (.done (.tup [J 0,.nsl,153]))
 (.lt (.app 27 336) [66,.agg [126,127,128,129,130,131,132,133,134,135,136,137,138,139,140,141,142,143,144,145,146,147,148,149,150,151,152]] 155 none
 (.lt (.bin .add 3 false true) [67,J 1] 156 none
 (.again 0 0 [155,156])))))
 .nil))))
 (.done (.tup [J 0,66,J 0])))))
 .nil))
theorem k88_any {nm fd:List UInt8} (h:(nm,fd)∈loads\/nm=[107]):∃(s:List UInt8) (r k z a b:Int) (c:Nat) (d e:Int) (f:Nat) (g:Int),Pure Tryz.prog 153 [VARS,.str nm] (.tup [.agg [.str s,.int .i64 r,.int .i64 k,.int .i64 z,.int .i64 a,.int .i64 b,.flt .f64 c,.int .i64 d,.int .i64 e,.flt .f64 f],.int .i64 g,.bool true])/\(nm,r)∈rolesL:=by
 rcases h with h|rfl
 ·simp only [loads,List.mem_cons,Prod.mk.injEq,List.not_mem_nil,or_false]at h
  rcases h with ⟨rfl,rfl⟩|⟨rfl,rfl⟩|⟨rfl,rfl⟩|⟨rfl,rfl⟩|⟨rfl,rfl⟩|⟨rfl,rfl⟩|⟨rfl,rfl⟩|⟨rfl,rfl⟩|⟨rfl,rfl⟩|⟨rfl,rfl⟩|⟨rfl,rfl⟩
  ·exact ⟨_,_,_,_,_,_,_,_,_,_,_,k88_98,by decide⟩
  ·exact ⟨_,_,_,_,_,_,_,_,_,_,_,k88_113,by decide⟩
  ·exact ⟨_,_,_,_,_,_,_,_,_,_,_,k88_116_109,by decide⟩
  ·exact ⟨_,_,_,_,_,_,_,_,_,_,_,k88_97,by decide⟩
  ·exact ⟨_,_,_,_,_,_,_,_,_,_,_,k88_120,by decide⟩
  ·exact ⟨_,_,_,_,_,_,_,_,_,_,_,k88_111,by decide⟩
  ·exact ⟨_,_,_,_,_,_,_,_,_,_,_,k88_99,by decide⟩
  ·exact ⟨_,_,_,_,_,_,_,_,_,_,_,k88_121,by decide⟩
  ·exact ⟨_,_,_,_,_,_,_,_,_,_,_,k88_116_109,by decide⟩
  ·exact ⟨_,_,_,_,_,_,_,_,_,_,_,k88_119,by decide⟩
  ·exact ⟨_,_,_,_,_,_,_,_,_,_,_,k88_122,by decide⟩
 ·exact ⟨_,_,_,_,_,_,_,_,_,_,_,k88_107,by decide⟩
def Blk (kd ad:Int) (ks:List Int):Prop:=(kd=6/\ad=12/\ks=[1,4])\/(kd=9/\ad=16/\ks=[1,2])\/(kd=11/\ad=19/\ks=[1])
def TS:Nat->GS->Prop
 |0,_=>False
 |d+1,.mk op to e thn els nm kd ad args=>
  (op=1/\TX 5 to/\(to.op=2/\(to.ad,to.kd)∈wrL\/to.op=3)/\TX 6 e/\e.kd=to.kd)\/
  ((op=2\/op=3)/\TX 5 e/\e.kd=1/\thn.length<=5/\els.length<=5/\(∀s∈thn,TS d s)/\∀s∈els,TS d s)\/
  (op=4/\Blk kd ad (args.map GX.kd)/\∀a∈args,TX 5 a)
def LK (x y:GS):Prop:=match x,y with
 | .mk op to ..,.mk op' to' .. =>op=1->op'=1/\NT to to'
def RT (d:Nat) (x:GS):Nat->List AV->Prop:=λ_ ws=>∃(y:GS) (e:Int),ws=encS y++[.int .i64 e]/\(e=0->TS d y/\LK x y)
def LKs (l y:List GS):Prop:=∀(j:Nat) (h1:j<l.length) (h2:j<y.length),LK l[j] y[j]
def RU (d:Nat) (l:List GS):Nat->List AV->Prop:=λ_ ws=>∃(y:List GS) (e:Int),ws=[encB y,.int .i64 e]/\(e=0->y.length=l.length/\(∀s∈y,TS d s)/\LKs l y)
theorem finT {d j:Nat} {x y:GS} {e:Int} {hv:List AV} {Y:Sy} {L:List (Nat->List AV->Prop)} (h:denL Y.v hv=encS y++[.int .i64 e]) (hw:e=0->TS d y/\LK x y):VOK Tryz.prog (QF (RT d x)) L Y (.done (.tup (.int .i64 (.ofNat j)::hv))):=
 VOK_fin (by rw [h];exact okSn y e) ⟨y,e,h,hw⟩
theorem okVX (x:GX):okL (VARS::encX x)=true:=by rw [okL_cons];exact okX x
theorem okVS (x:GS):okL (VARS::encS x)=true:=by rw [okL_cons];exact okS x
theorem p119 (d:Nat) (to e:GX) (thn els:List GS) (nm:List UInt8) (kd ad:Int) (args:List GX) (ht:WX 5 to) (ho:to.op=2\/to.op=3) (he:WX 6 e):
  CF Tryz.prog 119 ft119 (VARS::encS (.mk 1 to e thn els nm kd ad args)) (RT (d+1) (.mk 1 to e thn els nm kd ad args)):=by
 have h1:=p121 5 to ht
 have h2:=p121 6 e he
 obtain ⟨to1,to2,to3,to4,to5,to6,to7,to8,to9,to10⟩:=to
 obtain ⟨e1,e2,e3,e4,e5,e6,e7,e8,e9,e10⟩:=e
 refine cf_tree (c:=c119) (n:=300) (t:=t119) mo ov rfl (λY _=>known0 _) (by kernel_rfl) λY hf hg=>?_
 unfold t119
 refine callF' h2 rfl (okVX _) ⟨?_,trivial⟩
 rintro ws ⟨⟨y1,y2,y3,y4,y5,y6,y7,y8,y9,y10⟩,er,rfl,hy⟩
 (refine it_c rfl rfl (λh=>?_) (λh=>?_)<;>simp only [Cmp,Decidable.not_not,Int.not_lt,Int.not_le]at h<;>try (exfalso;first|exact h trivial|omega))
 ·(exact finT (y:=.mk _ (.mk _ _ _ _ _ _ _ _ _ _) (.mk _ _ _ _ _ _ _ _ _ _) _ _ _ _ _ _) rfl (λhe=>absurd he (by first|assumption|decide)))
 have hy:=(hy h).1
 refine callF' h1 rfl (okVX _) ⟨?_,trivial⟩
 rintro ws ⟨⟨z1,z2,z3,z4,z5,z6,z7,z8,z9,z10⟩,er2,rfl,hz⟩
 (refine it_c rfl rfl (λh=>?_) (λh=>?_)<;>simp only [Cmp,Decidable.not_not,Int.not_lt,Int.not_le]at h<;>try (exfalso;first|exact h trivial|omega))
 ·(exact finT (y:=.mk _ (.mk _ _ _ _ _ _ _ _ _ _) (.mk _ _ _ _ _ _ _ _ _ _) _ _ _ _ _ _) rfl (λhe=>absurd he (by first|assumption|decide)))
 have hz:=hz h
 obtain ⟨s,r,k,z,a,b,c,d',e',f,g,hp,hro⟩:=k88_any (nm:=to3) (fd:=to4) (by
  have ht':Nod to1 to2 to3 to4 to7 to8 to9:=ht.2.2.1
  rcases ho with ho|ho
  ·exact .inl (ht'.2.1 ho)
  ·exact .inr (ht'.2.2.1 ho))
 refine VOK_call hp rfl rfl ?_
 refine VOK_lt (run_nes ..) rfl (VOK_ite rfl (λh=>?_) (λhfd=>?_))
 ·(exact finT (y:=.mk _ (.mk _ _ _ _ _ _ _ _ _ _) (.mk _ _ _ _ _ _ _ _ _ _) _ _ _ _ _ _) rfl (λhe=>absurd he (by first|assumption|decide)))
 (refine it_c rfl rfl (λh=>?_) (λh=>?_)<;>simp only [Cmp,Decidable.not_not,Int.not_lt,Int.not_le]at h<;>try (exfalso;first|exact h trivial|omega))
 ·(exact finT (y:=.mk _ (.mk _ _ _ _ _ _ _ _ _ _) (.mk _ _ _ _ _ _ _ _ _ _) _ _ _ _ _ _) rfl (λhe=>absurd he (by first|assumption|decide)))
 have hr1:=h
 obtain ⟨⟨yo1,yk1,ynm1,yfd1,yad1,yn1,yvk1,yvi1,yvf1,ya1⟩,hp1,hy1⟩:=p154 _ z2 hy
 refine VOK_call hp1 rfl (okXe _) ?_
 (refine it_c rfl rfl (λh=>?_) (λh=>?_)<;>simp only [Cmp,Decidable.not_not,Int.not_lt,Int.not_le]at h<;>try (exfalso;first|exact h trivial|omega))
 ·(exact finT (y:=.mk _ (.mk _ _ _ _ _ _ _ _ _ _) (.mk _ _ _ _ _ _ _ _ _ _) _ _ _ _ _ _) rfl (λhe=>absurd he (by first|assumption|decide)))
 ·rcases ho with ho|ho
  ·exact finT (y:=.mk 1 (.mk _ _ _ _ _ _ _ _ _ _) (.mk _ _ _ _ _ _ _ _ _ _) _ _ _ _ _ _) rfl (λ_=>⟨.inl ⟨rfl,hz.1,.inl ⟨hz.2.1.trans ho,tie_wr _ (hz.2.2 ho) _ hro (by simpa using hfd) rfl hr1⟩,hy1,h⟩,λ_=>⟨rfl,hz.2.2⟩⟩)
  ·exact finT (y:=.mk 1 (.mk _ _ _ _ _ _ _ _ _ _) (.mk _ _ _ _ _ _ _ _ _ _) _ _ _ _ _ _) rfl (λ_=>⟨.inl ⟨rfl,hz.1,.inr (hz.2.1.trans ho),hy1,h⟩,λ_=>⟨rfl,hz.2.2⟩⟩)
theorem addX {d:Nat} {acc:List GX} {y:GX} (h:∀a∈acc,TX d a) (hy:TX d y):∀a∈acc++[y],TX d a:=λa ha=>by
 rcases List.mem_append.1 ha with ha|ha
 ·exact h a ha
 ·cases List.mem_singleton.1 ha;exact hy
theorem p120 (d:Nat) (to e:GX) (thn els:List GS) (nm:List UInt8) (kd ad:Int) (args:List GX) (hn:nm=[116,109]\/nm=[99]\/nm=[101]) (hl:args.length<=2) (hW:∀a∈args,WX 5 a):
  CF Tryz.prog 120 ft120 (VARS::encS (.mk 4 to e thn els nm kd ad args)) (RT (d+1) (.mk 4 to e thn els nm kd ad args)):=by
 obtain ⟨to1,to2,to3,to4,to5,to6,to7,to8,to9,to10⟩:=to
 obtain ⟨e1,e2,e3,e4,e5,e6,e7,e8,e9,e10⟩:=e
 refine cf_tree (c:=c120) (n:=300) (t:=t120) mo ov rfl (λY _=>known0 _) (by kernel_rfl) λY hf hg=>?_
 unfold t120
 rcases hn with rfl|rfl|rfl
 ·refine VOK_call k88_116_109 rfl rfl (VOK_lt rfl rfl (VOK_ite rfl (λh=>by cases h) (λ_=>VOK_call k46_6 rfl rfl ?_)))
  (refine it_c rfl rfl (λh=>?_) (λh=>?_)<;>simp only [Cmp,Decidable.not_not,Int.not_lt,Int.not_le]at h<;>try (exfalso;first|exact h trivial|omega));(refine it_c rfl rfl (λh=>?_) (λh=>?_)<;>simp only [Cmp,Decidable.not_not,Int.not_lt,Int.not_le]at h<;>try (exfalso;first|exact h trivial|omega));(refine it_c rfl rfl (λh=>?_) (λh=>?_)<;>simp only [Cmp,Decidable.not_not,Int.not_lt,Int.not_le]at h<;>try (exfalso;first|exact h trivial|omega));(refine it_c rfl rfl (λh=>?_) (λh=>?_)<;>simp only [Cmp,Decidable.not_not,Int.not_lt,Int.not_le]at h<;>try (exfalso;first|exact h trivial|omega));(refine it_c rfl rfl (λh=>?_) (λh=>?_)<;>simp only [Cmp,Decidable.not_not,Int.not_lt,Int.not_le]at h<;>try (exfalso;first|exact h trivial|omega))
  (
   refine VOK_loop (ι:=List GX×Nat) (λs=>[(.vsl 2 1 [.int .i64 1,.int .i64 4]),encA s.1,.int .i64 (s.2:Int)]) (λs=>s.1.length=s.2/\s.2<=args.length/\∀a∈s.1,TX 5 a) (λs=>args.length-s.2) ([],0) ⟨rfl,Nat.zero_le _,λa ha=>(List.not_mem_nil ha).elim⟩ rfl (λs _=>by simp only [okL,okC,okA]) (λs s' _ _ h=>by simp at h;omega) (λs hs=>?_)
   obtain ⟨acc,i⟩:=s
   obtain ⟨h1,h2,h3⟩:=hs
   simp only at h1 h2 h3⊢
   refine VOK_lt (run_len38 args) rfl ?_
   (refine it_c rfl rfl (λh=>?_) (λh=>?_)<;>simp only [Cmp,Decidable.not_not,Int.not_lt,Int.not_le]at h<;>try (exfalso;first|exact h trivial|omega))
   ·have hi:i<args.length:=by omega
    have hld:=run_ld40 args hi
    have hz:=p121 5 args[i] (hW _ (List.getElem_mem hi))
    rcases hzz:args[i]with ⟨zo,zk,znm,zfd,zad,zn,zvk,zvi,zvf,za⟩
    rw [hzz]at hld hz
    refine VOK_lt (run_ia38 args hi) (encL_ok okX _) (VOK_ltN hld rfl (okX _) ?_)
    refine callF' hz rfl (okVX _) ⟨?_,trivial⟩
    rintro ws ⟨⟨yo,yk,ynm,yfd,yad,yn,yvk,yvi,yvf,ya⟩,e,rfl,hy⟩
    (refine it_c rfl rfl (λh=>?_) (λh=>?_)<;>simp only [Cmp,Decidable.not_not,Int.not_lt,Int.not_le]at h<;>try (exfalso;first|exact h trivial|omega))
    ·(exact finT (y:=.mk _ (.mk _ _ _ _ _ _ _ _ _ _) (.mk _ _ _ _ _ _ _ _ _ _) _ _ _ _ _ _) rfl (λhe=>absurd he (by first|assumption|decide)))
    have hy:=(hy h).1
    refine VOK_lt (r:=.int .i64 2) rfl rfl ?_
    (refine it_c rfl rfl (λh=>?_) (λh=>?_)<;>simp only [Cmp,Decidable.not_not,Int.not_lt,Int.not_le]at h<;>try (exfalso;first|exact h trivial|omega))
    all_goals first
     |(have hi2:i=0\/i=1:=by omega
       rcases hi2 with rfl|rfl
       all_goals try (exfalso;omega)
       all_goals
        refine VOK_lt rfl rfl (VOK_lt rfl rfl ?_)
        obtain ⟨⟨yo1,yk1,ynm1,yfd1,yad1,yn1,yvk1,yvi1,yvf1,ya1⟩,hp1,hy1⟩:=p154 _ _ hy
        refine VOK_call hp1 rfl (okXe _) ?_
        refine VOK_lt (run_app10 acc (.mk yo1 yk1 ynm1 yfd1 yad1 yn1 yvk1 yvi1 yvf1 ya1) (by omega)) (okA _) (VOK_lt (add_c (by omega) (by omega)) rfl (VOK_again rfl ⟨(acc++[_],_),⟨by rw [List.length_append,h1];rfl,hi,addX h3 hy1⟩,rfl,by simp only;omega⟩)))
     |exact VOK_lt (run_app10 acc (.mk yo yk ynm yfd yad yn yvk yvi yvf ya) (by omega)) (okA _) (VOK_lt (add_c (by omega) (by omega)) rfl (VOK_again rfl ⟨(acc++[_],i+1),⟨by rw [List.length_append,h1];rfl,hi,addX h3 hy⟩,rfl,by simp only;omega⟩))
   have hi:i=args.length:=by omega
   subst hi
   refine VOK_lt (run_len38 acc) rfl (VOK_lt (r:=.int .i64 2) rfl rfl ?_))
  (refine it_c rfl rfl (λh=>?_) (λh=>?_)<;>simp only [Cmp,Decidable.not_not,Int.not_lt,Int.not_le]at h<;>try (exfalso;first|exact h trivial|omega))
  ·(exact finT (y:=.mk _ (.mk _ _ _ _ _ _ _ _ _ _) (.mk _ _ _ _ _ _ _ _ _ _) _ _ _ _ _ _) rfl (λhe=>absurd he (by first|assumption|decide)))
  have ha:acc.length=2:=by
   have h':(acc.length:Int)=2:=h
   omega
  obtain ⟨y,z,rfl⟩:∃y z,acc=[y,z]:=by
   rcases acc with _|⟨y,_|⟨z,_|⟨w,t⟩⟩⟩<;>simp at ha
   exact ⟨y,z,rfl⟩
  obtain ⟨y1,y2,y3,y4,y5,y6,y7,y8,y9,y10⟩:=y
  obtain ⟨z1,z2,z3,z4,z5,z6,z7,z8,z9,z10⟩:=z
  refine VOK_loop (ι:=Nat) (λi=>[.int .i64 (i:Int),.vsl 2 1 [.int .i64 1,.int .i64 4],encA [.mk y1 y2 y3 y4 y5 y6 y7 y8 y9 y10,.mk z1 z2 z3 z4 z5 z6 z7 z8 z9 z10]]) (λi=>i<=2/\(1<=i->y2=1)/\(2<=i->z2=4)) (λi=>2-i) 0 ⟨by decide,λh=>by omega,λh=>by omega⟩ rfl (λs _=>by simp only [okL,okC,okA]) (λs s' _ _ h=>by simp at h;omega) (λi hi=>?_)
  obtain ⟨i1,i2,i3⟩:=hi
  refine VOK_lt (r:=.int .i64 2) rfl rfl ?_
  (refine it_c rfl rfl (λh=>?_) (λh=>?_)<;>simp only [Cmp,Decidable.not_not,Int.not_lt,Int.not_le]at h<;>try (exfalso;first|exact h trivial|omega))
  ·have hi2:i=0\/i=1:=by omega
   rcases hi2 with rfl|rfl
   ·refine VOK_lt (r:=.int .i64 0) rfl rfl (VOK_lt (r:=.int .i64 y2) rfl rfl (VOK_lt (r:=.int .i64 0) rfl rfl (VOK_lt (r:=.int .i64 1) rfl rfl ?_)))
    (refine it_c rfl rfl (λh=>?_) (λh=>?_)<;>simp only [Cmp,Decidable.not_not,Int.not_lt,Int.not_le]at h<;>try (exfalso;first|exact h trivial|omega))
    ·(exact finT (y:=.mk _ (.mk _ _ _ _ _ _ _ _ _ _) (.mk _ _ _ _ _ _ _ _ _ _) _ _ _ _ _ _) rfl (λhe=>absurd he (by first|assumption|decide)))
    ·exact VOK_lt (add_c (by omega) (by omega)) rfl (VOK_again rfl ⟨1,⟨by decide,λ_=>h,λh=>by omega⟩,rfl,by decide⟩)
   ·refine VOK_lt (r:=.int .i64 1) rfl rfl (VOK_lt (r:=.int .i64 z2) rfl rfl (VOK_lt (r:=.int .i64 1) rfl rfl (VOK_lt (r:=.int .i64 4) rfl rfl ?_)))
    (refine it_c rfl rfl (λh=>?_) (λh=>?_)<;>simp only [Cmp,Decidable.not_not,Int.not_lt,Int.not_le]at h<;>try (exfalso;first|exact h trivial|omega))
    ·(exact finT (y:=.mk _ (.mk _ _ _ _ _ _ _ _ _ _) (.mk _ _ _ _ _ _ _ _ _ _) _ _ _ _ _ _) rfl (λhe=>absurd he (by first|assumption|decide)))
    ·exact VOK_lt (add_c (by omega) (by omega)) rfl (VOK_again rfl ⟨2,⟨by decide,λ_=>i2 (by decide),λ_=>h⟩,rfl,by decide⟩)
  ·refine finT (y:=.mk 4 (.mk _ _ _ _ _ _ _ _ _ _) (.mk _ _ _ _ _ _ _ _ _ _) _ _ _ _ _ [.mk _ _ _ _ _ _ _ _ _ _,.mk _ _ _ _ _ _ _ _ _ _]) rfl (λ_=>⟨.inr (.inr ⟨rfl,?_,h3⟩),λh=>by omega⟩)
   cases i2 (by omega)
   cases i3 (by omega)
   exact .inl ⟨rfl,rfl,rfl⟩
 ·refine VOK_call k88_99 rfl rfl (VOK_lt rfl rfl (VOK_ite rfl (λh=>by cases h) (λ_=>VOK_call k46_9 rfl rfl ?_)))
  repeat (refine it_c rfl rfl (λh=>?_) (λh=>?_)<;>simp only [Cmp,Decidable.not_not,Int.not_lt,Int.not_le]at h<;>try (exfalso;first|exact h trivial|omega))
  (
   refine VOK_loop (ι:=List GX×Nat) (λs=>[(.vsl 2 1 [.int .i64 1,.int .i64 2]),encA s.1,.int .i64 (s.2:Int)]) (λs=>s.1.length=s.2/\s.2<=args.length/\∀a∈s.1,TX 5 a) (λs=>args.length-s.2) ([],0) ⟨rfl,Nat.zero_le _,λa ha=>(List.not_mem_nil ha).elim⟩ rfl (λs _=>by simp only [okL,okC,okA]) (λs s' _ _ h=>by simp at h;omega) (λs hs=>?_)
   obtain ⟨acc,i⟩:=s
   obtain ⟨h1,h2,h3⟩:=hs
   simp only at h1 h2 h3⊢
   refine VOK_lt (run_len38 args) rfl ?_
   (refine it_c rfl rfl (λh=>?_) (λh=>?_)<;>simp only [Cmp,Decidable.not_not,Int.not_lt,Int.not_le]at h<;>try (exfalso;first|exact h trivial|omega))
   ·have hi:i<args.length:=by omega
    have hld:=run_ld40 args hi
    have hz:=p121 5 args[i] (hW _ (List.getElem_mem hi))
    rcases hzz:args[i]with ⟨zo,zk,znm,zfd,zad,zn,zvk,zvi,zvf,za⟩
    rw [hzz]at hld hz
    refine VOK_lt (run_ia38 args hi) (encL_ok okX _) (VOK_ltN hld rfl (okX _) ?_)
    refine callF' hz rfl (okVX _) ⟨?_,trivial⟩
    rintro ws ⟨⟨yo,yk,ynm,yfd,yad,yn,yvk,yvi,yvf,ya⟩,e,rfl,hy⟩
    (refine it_c rfl rfl (λh=>?_) (λh=>?_)<;>simp only [Cmp,Decidable.not_not,Int.not_lt,Int.not_le]at h<;>try (exfalso;first|exact h trivial|omega))
    ·(exact finT (y:=.mk _ (.mk _ _ _ _ _ _ _ _ _ _) (.mk _ _ _ _ _ _ _ _ _ _) _ _ _ _ _ _) rfl (λhe=>absurd he (by first|assumption|decide)))
    have hy:=(hy h).1
    refine VOK_lt (r:=.int .i64 2) rfl rfl ?_
    (refine it_c rfl rfl (λh=>?_) (λh=>?_)<;>simp only [Cmp,Decidable.not_not,Int.not_lt,Int.not_le]at h<;>try (exfalso;first|exact h trivial|omega))
    all_goals first
     |(have hi2:i=0\/i=1:=by omega
       rcases hi2 with rfl|rfl
       all_goals try (exfalso;omega)
       all_goals
        refine VOK_lt rfl rfl (VOK_lt rfl rfl ?_)
        obtain ⟨⟨yo1,yk1,ynm1,yfd1,yad1,yn1,yvk1,yvi1,yvf1,ya1⟩,hp1,hy1⟩:=p154 _ _ hy
        refine VOK_call hp1 rfl (okXe _) ?_
        refine VOK_lt (run_app10 acc (.mk yo1 yk1 ynm1 yfd1 yad1 yn1 yvk1 yvi1 yvf1 ya1) (by omega)) (okA _) (VOK_lt (add_c (by omega) (by omega)) rfl (VOK_again rfl ⟨(acc++[_],_),⟨by rw [List.length_append,h1];rfl,hi,addX h3 hy1⟩,rfl,by simp only;omega⟩)))
     |exact VOK_lt (run_app10 acc (.mk yo yk ynm yfd yad yn yvk yvi yvf ya) (by omega)) (okA _) (VOK_lt (add_c (by omega) (by omega)) rfl (VOK_again rfl ⟨(acc++[_],i+1),⟨by rw [List.length_append,h1];rfl,hi,addX h3 hy⟩,rfl,by simp only;omega⟩))
   have hi:i=args.length:=by omega
   subst hi
   refine VOK_lt (run_len38 acc) rfl (VOK_lt (r:=.int .i64 2) rfl rfl ?_))
  (refine it_c rfl rfl (λh=>?_) (λh=>?_)<;>simp only [Cmp,Decidable.not_not,Int.not_lt,Int.not_le]at h<;>try (exfalso;first|exact h trivial|omega))
  ·(exact finT (y:=.mk _ (.mk _ _ _ _ _ _ _ _ _ _) (.mk _ _ _ _ _ _ _ _ _ _) _ _ _ _ _ _) rfl (λhe=>absurd he (by first|assumption|decide)))
  have ha:acc.length=2:=by
   have h':(acc.length:Int)=2:=h
   omega
  obtain ⟨y,z,rfl⟩:∃y z,acc=[y,z]:=by
   rcases acc with _|⟨y,_|⟨z,_|⟨w,t⟩⟩⟩<;>simp at ha
   exact ⟨y,z,rfl⟩
  obtain ⟨y1,y2,y3,y4,y5,y6,y7,y8,y9,y10⟩:=y
  obtain ⟨z1,z2,z3,z4,z5,z6,z7,z8,z9,z10⟩:=z
  refine VOK_loop (ι:=Nat) (λi=>[.int .i64 (i:Int),.vsl 2 1 [.int .i64 1,.int .i64 2],encA [.mk y1 y2 y3 y4 y5 y6 y7 y8 y9 y10,.mk z1 z2 z3 z4 z5 z6 z7 z8 z9 z10]]) (λi=>i<=2/\(1<=i->y2=1)/\(2<=i->z2=2)) (λi=>2-i) 0 ⟨by decide,λh=>by omega,λh=>by omega⟩ rfl (λs _=>by simp only [okL,okC,okA]) (λs s' _ _ h=>by simp at h;omega) (λi hi=>?_)
  obtain ⟨i1,i2,i3⟩:=hi
  refine VOK_lt (r:=.int .i64 2) rfl rfl ?_
  (refine it_c rfl rfl (λh=>?_) (λh=>?_)<;>simp only [Cmp,Decidable.not_not,Int.not_lt,Int.not_le]at h<;>try (exfalso;first|exact h trivial|omega))
  ·have hi2:i=0\/i=1:=by omega
   rcases hi2 with rfl|rfl
   ·refine VOK_lt (r:=.int .i64 0) rfl rfl (VOK_lt (r:=.int .i64 y2) rfl rfl (VOK_lt (r:=.int .i64 0) rfl rfl (VOK_lt (r:=.int .i64 1) rfl rfl ?_)))
    (refine it_c rfl rfl (λh=>?_) (λh=>?_)<;>simp only [Cmp,Decidable.not_not,Int.not_lt,Int.not_le]at h<;>try (exfalso;first|exact h trivial|omega))
    ·(exact finT (y:=.mk _ (.mk _ _ _ _ _ _ _ _ _ _) (.mk _ _ _ _ _ _ _ _ _ _) _ _ _ _ _ _) rfl (λhe=>absurd he (by first|assumption|decide)))
    ·exact VOK_lt (add_c (by omega) (by omega)) rfl (VOK_again rfl ⟨1,⟨by decide,λ_=>h,λh=>by omega⟩,rfl,by decide⟩)
   ·refine VOK_lt (r:=.int .i64 1) rfl rfl (VOK_lt (r:=.int .i64 z2) rfl rfl (VOK_lt (r:=.int .i64 1) rfl rfl (VOK_lt (r:=.int .i64 2) rfl rfl ?_)))
    (refine it_c rfl rfl (λh=>?_) (λh=>?_)<;>simp only [Cmp,Decidable.not_not,Int.not_lt,Int.not_le]at h<;>try (exfalso;first|exact h trivial|omega))
    ·(exact finT (y:=.mk _ (.mk _ _ _ _ _ _ _ _ _ _) (.mk _ _ _ _ _ _ _ _ _ _) _ _ _ _ _ _) rfl (λhe=>absurd he (by first|assumption|decide)))
    ·exact VOK_lt (add_c (by omega) (by omega)) rfl (VOK_again rfl ⟨2,⟨by decide,λ_=>i2 (by decide),λ_=>h⟩,rfl,by decide⟩)
  ·refine finT (y:=.mk 4 (.mk _ _ _ _ _ _ _ _ _ _) (.mk _ _ _ _ _ _ _ _ _ _) _ _ _ _ _ [.mk _ _ _ _ _ _ _ _ _ _,.mk _ _ _ _ _ _ _ _ _ _]) rfl (λ_=>⟨.inr (.inr ⟨rfl,?_,h3⟩),λh=>by omega⟩)
   cases i2 (by omega)
   cases i3 (by omega)
   exact .inr (.inl ⟨rfl,rfl,rfl⟩)
 ·refine VOK_call k88_101 rfl rfl (VOK_lt rfl rfl (VOK_ite rfl (λh=>by cases h) (λ_=>VOK_call k46_11 rfl rfl ?_)))
  repeat (refine it_c rfl rfl (λh=>?_) (λh=>?_)<;>simp only [Cmp,Decidable.not_not,Int.not_lt,Int.not_le]at h<;>try (exfalso;first|exact h trivial|omega))
  (
   refine VOK_loop (ι:=List GX×Nat) (λs=>[(.vsl 1 1 [.int .i64 1]),encA s.1,.int .i64 (s.2:Int)]) (λs=>s.1.length=s.2/\s.2<=args.length/\∀a∈s.1,TX 5 a) (λs=>args.length-s.2) ([],0) ⟨rfl,Nat.zero_le _,λa ha=>(List.not_mem_nil ha).elim⟩ rfl (λs _=>by simp only [okL,okC,okA]) (λs s' _ _ h=>by simp at h;omega) (λs hs=>?_)
   obtain ⟨acc,i⟩:=s
   obtain ⟨h1,h2,h3⟩:=hs
   simp only at h1 h2 h3⊢
   refine VOK_lt (run_len38 args) rfl ?_
   (refine it_c rfl rfl (λh=>?_) (λh=>?_)<;>simp only [Cmp,Decidable.not_not,Int.not_lt,Int.not_le]at h<;>try (exfalso;first|exact h trivial|omega))
   ·have hi:i<args.length:=by omega
    have hld:=run_ld40 args hi
    have hz:=p121 5 args[i] (hW _ (List.getElem_mem hi))
    rcases hzz:args[i]with ⟨zo,zk,znm,zfd,zad,zn,zvk,zvi,zvf,za⟩
    rw [hzz]at hld hz
    refine VOK_lt (run_ia38 args hi) (encL_ok okX _) (VOK_ltN hld rfl (okX _) ?_)
    refine callF' hz rfl (okVX _) ⟨?_,trivial⟩
    rintro ws ⟨⟨yo,yk,ynm,yfd,yad,yn,yvk,yvi,yvf,ya⟩,e,rfl,hy⟩
    (refine it_c rfl rfl (λh=>?_) (λh=>?_)<;>simp only [Cmp,Decidable.not_not,Int.not_lt,Int.not_le]at h<;>try (exfalso;first|exact h trivial|omega))
    ·(exact finT (y:=.mk _ (.mk _ _ _ _ _ _ _ _ _ _) (.mk _ _ _ _ _ _ _ _ _ _) _ _ _ _ _ _) rfl (λhe=>absurd he (by first|assumption|decide)))
    have hy:=(hy h).1
    refine VOK_lt (r:=.int .i64 1) rfl rfl ?_
    (refine it_c rfl rfl (λh=>?_) (λh=>?_)<;>simp only [Cmp,Decidable.not_not,Int.not_lt,Int.not_le]at h<;>try (exfalso;first|exact h trivial|omega))
    all_goals first
     |(have hi2:i=0\/i=1:=by omega
       rcases hi2 with rfl|rfl
       all_goals try (exfalso;omega)
       all_goals
        refine VOK_lt rfl rfl (VOK_lt rfl rfl ?_)
        obtain ⟨⟨yo1,yk1,ynm1,yfd1,yad1,yn1,yvk1,yvi1,yvf1,ya1⟩,hp1,hy1⟩:=p154 _ _ hy
        refine VOK_call hp1 rfl (okXe _) ?_
        refine VOK_lt (run_app10 acc (.mk yo1 yk1 ynm1 yfd1 yad1 yn1 yvk1 yvi1 yvf1 ya1) (by omega)) (okA _) (VOK_lt (add_c (by omega) (by omega)) rfl (VOK_again rfl ⟨(acc++[_],_),⟨by rw [List.length_append,h1];rfl,hi,addX h3 hy1⟩,rfl,by simp only;omega⟩)))
     |exact VOK_lt (run_app10 acc (.mk yo yk ynm yfd yad yn yvk yvi yvf ya) (by omega)) (okA _) (VOK_lt (add_c (by omega) (by omega)) rfl (VOK_again rfl ⟨(acc++[_],i+1),⟨by rw [List.length_append,h1];rfl,hi,addX h3 hy⟩,rfl,by simp only;omega⟩))
   have hi:i=args.length:=by omega
   subst hi
   refine VOK_lt (run_len38 acc) rfl (VOK_lt (r:=.int .i64 1) rfl rfl ?_))
  (refine it_c rfl rfl (λh=>?_) (λh=>?_)<;>simp only [Cmp,Decidable.not_not,Int.not_lt,Int.not_le]at h<;>try (exfalso;first|exact h trivial|omega))
  ·(exact finT (y:=.mk _ (.mk _ _ _ _ _ _ _ _ _ _) (.mk _ _ _ _ _ _ _ _ _ _) _ _ _ _ _ _) rfl (λhe=>absurd he (by first|assumption|decide)))
  have ha:acc.length=1:=by
   have h':(acc.length:Int)=1:=h
   omega
  obtain ⟨y,rfl⟩:=List.length_eq_one_iff.1 ha
  obtain ⟨y1,y2,y3,y4,y5,y6,y7,y8,y9,y10⟩:=y
  refine VOK_loop (ι:=Nat) (λi=>[.int .i64 (i:Int),.vsl 1 1 [.int .i64 1],encA [.mk y1 y2 y3 y4 y5 y6 y7 y8 y9 y10]]) (λi=>i<=1/\(1<=i->y2=1)) (λi=>1-i) 0 ⟨by decide,λh=>by omega⟩ rfl (λs _=>by simp only [okL,okC,okA]) (λs s' _ _ h=>by simp at h;omega) (λi hi=>?_)
  obtain ⟨i1,i2⟩:=hi
  refine VOK_lt (r:=.int .i64 1) rfl rfl ?_
  (refine it_c rfl rfl (λh=>?_) (λh=>?_)<;>simp only [Cmp,Decidable.not_not,Int.not_lt,Int.not_le]at h<;>try (exfalso;first|exact h trivial|omega))
  ·have hi2:i=0:=by omega
   subst hi2
   refine VOK_lt (r:=.int .i64 0) rfl rfl (VOK_lt (r:=.int .i64 y2) rfl rfl (VOK_lt (r:=.int .i64 0) rfl rfl (VOK_lt (r:=.int .i64 1) rfl rfl ?_)))
   (refine it_c rfl rfl (λh=>?_) (λh=>?_)<;>simp only [Cmp,Decidable.not_not,Int.not_lt,Int.not_le]at h<;>try (exfalso;first|exact h trivial|omega))
   ·(exact finT (y:=.mk _ (.mk _ _ _ _ _ _ _ _ _ _) (.mk _ _ _ _ _ _ _ _ _ _) _ _ _ _ _ _) rfl (λhe=>absurd he (by first|assumption|decide)))
   ·exact VOK_lt (add_c (by omega) (by omega)) rfl (VOK_again rfl ⟨1,⟨by decide,λ_=>h⟩,rfl,by decide⟩)
  ·refine finT (y:=.mk 4 (.mk _ _ _ _ _ _ _ _ _ _) (.mk _ _ _ _ _ _ _ _ _ _) _ _ _ _ _ [.mk _ _ _ _ _ _ _ _ _ _]) rfl (λ_=>⟨.inr (.inr ⟨rfl,?_,h3⟩),λh=>by omega⟩)
   cases i2 (by omega)
   exact .inr (.inr ⟨rfl,rfl,rfl⟩)
theorem run_len25 (l:List GS):(XOp.len 26).run Tryz.prog [encB l]=some (.int .i64 (l.length:Int)):=by rw [encB_eq];exact run_len_sl Tryz.underlying26 l
theorem run_ia25 (l:List GS) {i:Nat} (h:i<l.length):(XOp.iaddr 26).run Tryz.prog [encB l,.int .i64 (i:Int)]=some (.vptr (encL encS (l.drop i))):=by
 rw [encB_eq];exact run_iaddr_sl (e:=52) (ti:=(Tryz.prog.info? 52).get!) Tryz.underlying26 (by kernel_rfl) (by kernel_rfl) lenS h .i64
theorem run_ld42 (l:List GS) {i:Nat} (h:i<l.length):(XOp.load 52).run Tryz.prog [.vptr (encL encS (l.drop i))]=some (.agg (encS l[i])):=
 run_load_agg (ti:=(Tryz.prog.info? 52).get!) Tryz.underlying52 rfl (by kernel_rfl) (by kernel_rfl) lenS h
def PT (d:Nat):Prop:=∀x:GS,WS d x->CF Tryz.prog 78 ft78 (VARS::encS x) (RT d x)
theorem p46 (d:Nat) (hT:PT d) (l:List GS) (hl:l.length<=5) (hW:∀s∈l,WS d s):CF Tryz.prog 46 ft46 [VARS,encB l] (RU d l):=by
 refine cf_tree (c:=c46) (n:=300) (t:=t46) mo ov rfl (λY _=>known0 _) (by kernel_rfl) λY hf hg=>?_
 unfold t46
 refine VOK_loop (ι:=List GS×Nat) (λs=>[encB s.1,.int .i64 (s.2:Int)]) (λs=>s.1.length=s.2/\s.2<=l.length/\(∀a∈s.1,TS d a)/\LKs l s.1) (λs=>l.length-s.2) ([],0) ⟨rfl,Nat.zero_le _,λa ha=>(List.not_mem_nil ha).elim,λj _ h=>absurd h (Nat.not_lt_zero j)⟩ rfl (λs _=>by simp only [okL,okC,okB]) (λs s' _ _ h=>by simp at h;omega) (λs hs=>?_)
 obtain ⟨acc,i⟩:=s
 obtain ⟨h1,h2,h3,h5⟩:=hs
 simp only at h1 h2 h3 h5⊢
 refine VOK_lt (run_len25 l) rfl ?_
 (refine it_c rfl rfl (λh=>?_) (λh=>?_)<;>simp only [Cmp,Decidable.not_not,Int.not_lt,Int.not_le]at h<;>try (exfalso;first|exact h trivial|omega))
 ·have hi:i<l.length:=by omega
  have hld:=run_ld42 l hi
  have hz:=hT l[i] (hW _ (List.getElem_mem hi))
  rcases hzz:l[i]with ⟨op,⟨to1,to2,to3,to4,to5,to6,to7,to8,to9,to10⟩,⟨e1,e2,e3,e4,e5,e6,e7,e8,e9,e10⟩,thn,els,nm,kd,ad,args⟩
  rw [hzz]at hld hz
  refine VOK_lt (run_ia25 l hi) (encL_ok okS _) (VOK_ltN hld rfl (okS _) ?_)
  refine callF' hz rfl (okVS _) ⟨?_,trivial⟩
  rintro ws ⟨⟨op',⟨so1,so2,so3,so4,so5,so6,so7,so8,so9,so10⟩,⟨f1,f2,f3,f4,f5,f6,f7,f8,f9,f10⟩,thn',els',nm',kd',ad',args'⟩,e,rfl,hy⟩
  (refine it_c rfl rfl (λh=>?_) (λh=>?_)<;>simp only [Cmp,Decidable.not_not,Int.not_lt,Int.not_le]at h<;>try (exfalso;first|exact h trivial|omega))
  ·exact VOK_fin rfl ⟨[],e,rfl,λhe=>absurd he h⟩
  ·rename_i hh
   refine VOK_lt (run_app27 acc (.mk op' (.mk so1 so2 so3 so4 so5 so6 so7 so8 so9 so10) (.mk f1 f2 f3 f4 f5 f6 f7 f8 f9 f10) thn' els' nm' kd' ad' args') (by omega)) (okB _) (VOK_lt (add_c (by omega) (by omega)) rfl (VOK_again rfl ⟨(acc++[_],i+1),⟨by rw [List.length_append,h1];rfl,hi,?_,?_⟩,rfl,by simp only;omega⟩))
   ·intro a ha
    rcases List.mem_append.1 ha with ha|ha
    ·exact h3 a ha
    ·cases List.mem_singleton.1 ha;exact (hy (by assumption)).1
   ·intro j g1 g2
    by_cases e:j<acc.length
    ·rw [List.getElem_append_left e];exact h5 j g1 e
    ·have e:j=acc.length:=by rw [List.length_append,List.length_singleton]at g2;omega
     have e2:j=i:=by omega
     subst e2
     rw [List.getElem_append_right (by omega)]
     simp only [hzz]
     have:∀(k:Nat) (h:k<1),k=0:=λk h=>by omega
     simp only [e,Nat.sub_self,List.getElem_singleton]
     exact (hy (by assumption)).2
 ·exact VOK_fin (by show okL [encB acc,.int .i64 0]=true;simp only [okL,okC,okB]) ⟨acc,0,rfl,λ_=>⟨by omega,h3,h5⟩⟩
theorem okVB (l:List GS):okL [VARS,encB l]=true:=by rw [okL_cons];simp only [okL,okC,okB];rfl
theorem p78:∀d:Nat,PT d
 |0,_,h=>h.elim
 |d+1,.mk op to e thn els nm kd ad args,hx=>by
  have ih:=p46 d (p78 d)
  have h1:op=1->_:=λh=>p119 d to e thn els nm kd ad args
  have h4:=p120 d to e thn els nm kd ad args
  have h2:=p121 5 e
  obtain ⟨to1,to2,to3,to4,to5,to6,to7,to8,to9,to10⟩:=to
  obtain ⟨e1,e2,e3,e4,e5,e6,e7,e8,e9,e10⟩:=e
  refine cf_tree (c:=c78) (n:=300) (t:=t78) mo ov rfl (λY _=>known0 _) (by kernel_rfl) λY hf hg=>?_
  unfold t78
  rcases hx with ⟨rfl,a1,a2,a3⟩|⟨ho,b1,b2,b3,b4,b5⟩|⟨rfl,a1,a2,a3⟩
  ·(refine it_c rfl rfl (λh=>?_) (λh=>?_)<;>simp only [Cmp,Decidable.not_not,Int.not_lt,Int.not_le]at h<;>try (exfalso;first|exact h trivial|omega))
   refine callF' (h1 rfl a1 a2 a3) rfl (okVS _) ⟨?_,trivial⟩
   rintro ws ⟨⟨op',⟨so1,so2,so3,so4,so5,so6,so7,so8,so9,so10⟩,⟨f1,f2,f3,f4,f5,f6,f7,f8,f9,f10⟩,thn',els',nm',kd',ad',args'⟩,e,rfl,hy⟩
   exact finT (y:=.mk _ (.mk _ _ _ _ _ _ _ _ _ _) (.mk _ _ _ _ _ _ _ _ _ _) _ _ _ _ _ _) rfl hy
  ·(refine it_c rfl rfl (λh=>?_) (λh=>?_)<;>simp only [Cmp,Decidable.not_not,Int.not_lt,Int.not_le]at h<;>try (exfalso;first|exact h trivial|omega));(refine it_c rfl rfl (λh=>?_) (λh=>?_)<;>simp only [Cmp,Decidable.not_not,Int.not_lt,Int.not_le]at h<;>try (exfalso;first|exact h trivial|omega))
   refine callF' (h2 b1) rfl (okVX _) ⟨?_,trivial⟩
   rintro ws ⟨⟨y1,y2,y3,y4,y5,y6,y7,y8,y9,y10⟩,er,rfl,hy⟩
   (refine it_c rfl rfl (λh=>?_) (λh=>?_)<;>simp only [Cmp,Decidable.not_not,Int.not_lt,Int.not_le]at h<;>try (exfalso;first|exact h trivial|omega))
   ·(exact finT (y:=.mk _ (.mk _ _ _ _ _ _ _ _ _ _) (.mk _ _ _ _ _ _ _ _ _ _) _ _ _ _ _ _) rfl (λhe=>absurd he (by first|assumption|decide)))
   have hy:=(hy h).1
   (refine it_c rfl rfl (λh=>?_) (λh=>?_)<;>simp only [Cmp,Decidable.not_not,Int.not_lt,Int.not_le]at h<;>try (exfalso;first|exact h trivial|omega))
   ·(exact finT (y:=.mk _ (.mk _ _ _ _ _ _ _ _ _ _) (.mk _ _ _ _ _ _ _ _ _ _) _ _ _ _ _ _) rfl (λhe=>absurd he (by first|assumption|decide)))
   have hk:=h
   refine callF' (ih thn b2 b4) rfl (okVB _) ⟨?_,trivial⟩
   rintro ws ⟨thn',er1,rfl,ht⟩
   (refine it_c rfl rfl (λh=>?_) (λh=>?_)<;>simp only [Cmp,Decidable.not_not,Int.not_lt,Int.not_le]at h<;>try (exfalso;first|exact h trivial|omega))
   ·(exact finT (y:=.mk _ (.mk _ _ _ _ _ _ _ _ _ _) (.mk _ _ _ _ _ _ _ _ _ _) _ _ _ _ _ _) rfl (λhe=>absurd he (by first|assumption|decide)))
   have ht:=ht h
   refine callF' (ih els b3 b5) rfl (okVB _) ⟨?_,trivial⟩
   rintro ws ⟨els',er2,rfl,hs⟩
   refine finT (y:=.mk _ (.mk _ _ _ _ _ _ _ _ _ _) (.mk _ _ _ _ _ _ _ _ _ _) _ _ _ _ _ _) rfl (λh0=>⟨.inr (.inl ⟨ho,hy,hk,by rw [ht.1];exact b2,by rw [(hs h0).1];exact b3,ht.2.1,(hs h0).2.1⟩),λh=>by omega⟩)
  ·(refine it_c rfl rfl (λh=>?_) (λh=>?_)<;>simp only [Cmp,Decidable.not_not,Int.not_lt,Int.not_le]at h<;>try (exfalso;first|exact h trivial|omega));(refine it_c rfl rfl (λh=>?_) (λh=>?_)<;>simp only [Cmp,Decidable.not_not,Int.not_lt,Int.not_le]at h<;>try (exfalso;first|exact h trivial|omega))
   refine callF' (h4 a1 a2 a3) rfl (okVS _) ⟨?_,trivial⟩
   rintro ws ⟨⟨op',⟨so1,so2,so3,so4,so5,so6,so7,so8,so9,so10⟩,⟨f1,f2,f3,f4,f5,f6,f7,f8,f9,f10⟩,thn',els',nm',kd',ad',args'⟩,e,rfl,hy⟩
   exact finT (y:=.mk _ (.mk _ _ _ _ _ _ _ _ _ _) (.mk _ _ _ _ _ _ _ _ _ _) _ _ _ _ _ _) rfl hy
end Go.Proofs.YtjconanknjgpnaaGreat.vars
set_option maxRecDepth 100000
set_option linter.unusedVariables false
set_option linter.unusedSimpArgs false
namespace Go.Proofs.YtjconanknjgpnaaGreat.vars
open Go Go.Sx
def c14:VC:=⟨⟨[],[]⟩,[],[],0,true,[]⟩
def t14:VT:=
 (.done (.tup [J 0]))
def c19:VC:=⟨⟨[],[]⟩,[(45,[none])],[],0,true,[(46,ft46)]⟩
def t19:VT:=
 (.call 45 [64] 66 [none]
 (.lt (.bin .neq 35 false true) [66,J 0] 67 none
 (.ite 67
 (.done (.tup [J 0,.nsl,.nsl,66]))
 (.callF 46 ft46 [64,65] 68
 (.cons 2
 (.lt (.bin .neq 35 false true) [71,J 0] 72 none
 (.ite 72
 (.done (.tup [J 0,.nsl,.nsl,71]))
 (.lt (.app 10 88) [.vsl 0 10 [],64] 73 none
 (.done (.tup [J 0,73,70,J 0])))))
 .nil)))))
def c13:VC:=⟨⟨[],[]⟩,[],[],0,true,[(14,ft14),(38,ft38),(19,ft19)]⟩
theorem p14 (a:AV) (h:okC a=true):CF Tryz.prog 14 ft14 [a] (λ_ ws=>ws=[]):=by
 refine cf_tree (c:=c14) (n:=300) (t:=t14) mo ov rfl (λY _=>known0 _) (by kernel_rfl) λY hf hg=>?_
 unfold t14
 exact VOK_fin rfl rfl
def RC (l:List GS):Nat->List AV->Prop:=λ_ ws=>∃(v:AV) (b:List GS) (e:Int),ws=[v,encB b,.int .i64 e]/\okC v=true/\(e=0->v=VARS/\b.length=l.length/\(∀s∈b,TS 3 s)/\LKs l b)
theorem okVBI {v:AV} (hv:okC v=true) (b:List GS) {x:AV} (hx:okC x=true):okL [v,encB b,x]=true:=by simp only [okL,hv,okB,hx]
theorem p19 (b:List GS) (hl:b.length<=5) (h:∀s∈b,WS 3 s):CF Tryz.prog 19 ft19 [VARS,encB b] (RC b):=by
 refine cf_tree (c:=c19) (n:=300) (t:=t19) mo ov rfl (λY _=>known0 _) (by kernel_rfl) λY hf hg=>?_
 unfold t19
 refine VOK_call k35 rfl rfl ?_
 (refine it_c rfl rfl (λh=>?_) (λh=>?_)<;>simp only [Cmp,Decidable.not_not,Int.not_lt,Int.not_le]at h<;>try (exfalso;first|exact h trivial|omega))
 refine callF' (p46 3 (p78 3) b hl (by assumption)) rfl (okVB _) ⟨?_,trivial⟩
 rintro ws ⟨b',e,rfl,hb⟩
 (refine it_c rfl rfl (λh=>?_) (λh=>?_)<;>simp only [Cmp,Decidable.not_not,Int.not_lt,Int.not_le]at h<;>try (exfalso;first|exact h trivial|omega))
 ·exact VOK_fin rfl ⟨.nsl,[],e,rfl,rfl,λhe=>absurd he (by assumption)⟩
 ·have hb:=hb (by assumption)
  refine VOK_lt (r:=VARS) rfl rfl (VOK_fin (okVBI (v:=VARS) rfl b' (x:=.int .i64 0) rfl) ⟨VARS,b',0,rfl,rfl,λ_=>⟨rfl,hb⟩⟩)
end Go.Proofs.YtjconanknjgpnaaGreat.vars
set_option maxRecDepth 100000
set_option linter.unusedVariables false
set_option linter.unusedSimpArgs false
namespace Go.Proofs.YtjconanknjgpnaaGreat.vars
open Go Go.Sx
theorem rows_of {α:Type} {enc:α->List AV} {p:List AV->Prop} {q:α->Prop} (h:∀r,p r->∃a,r=enc a/\q a):∀rows:List (List AV),(∀r,r∈rows->p r)->∃l:List α,rows.flatten=encL enc l/\l.length=rows.length/\∀a,a∈l->q a
 |[],_=>⟨[],rfl,rfl,λa h=>by cases h⟩
 |r::rows,hr=>by
  obtain ⟨a,rfl,ha⟩:=h r (hr r (List.mem_cons_self ..))
  obtain ⟨l,h1,h2,h3⟩:=rows_of h rows λr h=>hr r (List.mem_cons_of_mem _ h)
  refine ⟨a::l,by rw [List.flatten_cons,h1];rfl,by simp [h2],λb hb=>?_⟩
  rcases List.mem_cons.1 hb with rfl|hb
  ·exact ha
  ·exact h3 b hb
theorem fit_u8 {r:List AV} (h:Sx.Fit Tryz.prog 5 r):∃c:UInt8,r=encC c/\True:=by
 obtain ⟨n,rfl,hn⟩:=fit_int_inv Tryz.underlying5 h
 have hn:0<=n/\n<=255:=by simpa [Lit.wf,IntKind.min,IntKind.max,IntKind.bits,IntKind.signed]using hn
 refine ⟨n.toNat.toUInt8,?_,trivial⟩
 have:((n.toNat.toUInt8).toNat:Int)=n:=by
  have h1:n.toNat.toUInt8.toNat=n.toNat:=by
   simp only [Nat.toUInt8,UInt8.toNat_ofNat'];omega
  rw [h1];omega
 unfold encC
 rw [this]
theorem arg_u8s {H:Type} {enc:TypeId×Value->H} {W:World} {base:Nat} {v:Value} {dd:DataW H} {p ps:List MemPlace} (hok:Value.okWide Tryz.prog W .any base 22 v)
  (h:DataW.Trod enc Tryz.prog W 0 (λ_=>true) true 22 v dd p) (hps:∀q,q∈p->q∈ps):∃(l:List UInt8) (a:AV),SlV encC 1 l a/\True/\l.length<=maxLen/\Con (envOf (imOf W ps)) a v:=by
 rcases arg_slice (d:=5) Tryz.underlying22 (by kernel_rfl) hok h hps with rfl|⟨rows,h1,h2,h3,h4⟩
 ·exact ⟨[],.nsl,.inr ⟨rfl,rfl⟩,trivial,Nat.zero_le _,by simp only [Con]⟩
 ·obtain ⟨l,k1,k2,k3⟩:=rows_of (enc:=encC) (q:=λ_=>True) (λr hr=>fit_u8 hr) rows h1
  have hc:Tryz.prog.cellsOf 5=1:=by kernel_rfl
  refine ⟨l,vslOf encC 1 l,.inl rfl,trivial,by omega,?_⟩
  have h4':=h4
  rw [k1,hc,←k2]at h4'
  exact h4'
end Go.Proofs.YtjconanknjgpnaaGreat.vars
set_option maxRecDepth 100000
set_option linter.unusedVariables false
set_option linter.unusedSimpArgs false
namespace Go.Proofs.YtjconanknjgpnaaGreat.vars
open Go Go.Sx
def c4:VC:=⟨⟨[],[]⟩,[(12,[none]),(23,[(some 3),none]),(24,[none]),(25,[none]),(20,[none])],[],0,true,[(14,ft14),(21,ft21),(19,ft19),(15,ft15),(22,ft22)]⟩
def t4:VT:=
 (.call 12 [] 67 [none]
 (.lt (.un .not) [67] 68 none
 (.ite 68
 (.done (.bool false))
 (.lt (.len 22) [64] 69 none
 (.lt (.bin .gtr 3 false true) [69,J 100] 70 none
 (.ite 70
 (.done (.bool true))
 (.lt (.len 22) [65] 71 none
 (.lt (.bin .gtr 3 false true) [71,J 60] 72 none
 (.ite 72
 (.done (.bool true))
 (.lt (.bin .rem 5 false true) [66,.int .u8 5] 73 none
 (.lt (.conv 5 3) [73] 74 none
 (.lt (.bin .add 3 true false) [J 1,74] 75 none
 (.lt (.bin .sub 3 false true) [75,J 1] 76 none
 (.lt (.iaddr 40) [.vsl 5 1 [.str [113],.str [120],.str [121],.str [119],.str [122]],76] 77 none
 (.lt (.load 9) [77] 78 none
 (.call 20 [] 79 [none]
 (.callF 14 ft14 [64] 80
 (.cons 0
 (.callF 21 ft21 [64,J 0,75,J 5] 81
 (.cons 11
 (.callF 19 ft19 [79,.vsl 1 27 [J 1,J 2,J 0,78,.str [],J 0,J 0,J 0,J 0,.flt .f64 0,.nsl,85,86,87,88,89,90,91,92,93,94,.nsl,.nsl,.str [],J 0,J 0,.nsl]] 96
 (.cons 3
 (.lt (.bin .neq 35 false true) [100,J 0] 101 none
 (.ite 101
 (.done (.bool true))
 (.callF 14 ft14 [65] 102
 (.cons 0
 (.callF 15 ft15 [65,J 0] 103
 (.cons 2
 (.lt (.iaddr 26) [99,J 0] 107 none
 (.lt (.faddr 52 2) [107] 108 none
 (.lt (.load 49) [108] 109 (some 10)
 (.callF 22 ft22 [105,109,110,111,112,113,114,115,116,117,118] 119
 (.cons 4
 (.lt (.iaddr 26) [99,J 0] 134 none
 (.lt (.faddr 52 2) [134] 135 none
 (.lt (.load 49) [135] 136 (some 10)
 (.call 23 [.agg [136,137,138,139,140,141,142,143,144,145],105] 146 [(some 3),none]
 (.lt (.bin .eql 35 false false) [133,149] 150 none
 (.ite 150
 (.call 24 [.agg [130,131,132],.agg [146,147,148]] 151 [none]
 (.ite 151
 (.lt (.bin .neq 35 false true) [133,J 0] 152 none
 (.ite 152
 (.done (.bool true))
 (.call 25 [.agg [130,131,132]] 153 [none]
 (.ite 153
 (.lt (.bin .eql 3 false false) [130,75] 154 none
 (.done (154)))
 (.done (.bool false))))))
 (.done (.bool false))))
 (.done (.bool false))))))))
 .nil)))))
 .nil))
 .nil))))
 .nil))
 .nil))
 .nil))))))))))))))))))
def toL:List (List UInt8):=[[113],[120],[121],[119],[122]]
def encN (s:List UInt8):List AV:=[.str s]
theorem toL_tie:∀j:Nat,(h:j<toL.length)->(toL[j],[])∈loads/\∀t∈tieL,t.1=toL[j]->t.2.1=[]->t.2.2.2=(j:Int)+1:=by
 intro j h
 have:j=0\/j=1\/j=2\/j=3\/j=4:=by simp [toL]at h;omega
 rcases this with rfl|rfl|rfl|rfl|rfl
 ·exact ⟨by show (([113]:List UInt8),([]:List UInt8))∈loads;decide,by show ∀t∈tieL,t.1=[113]->t.2.1=[]->t.2.2.2=((0:Nat):Int)+1;decide⟩
 ·exact ⟨by show (([120]:List UInt8),([]:List UInt8))∈loads;decide,by show ∀t∈tieL,t.1=[120]->t.2.1=[]->t.2.2.2=((1:Nat):Int)+1;decide⟩
 ·exact ⟨by show (([121]:List UInt8),([]:List UInt8))∈loads;decide,by show ∀t∈tieL,t.1=[121]->t.2.1=[]->t.2.2.2=((2:Nat):Int)+1;decide⟩
 ·exact ⟨by show (([119]:List UInt8),([]:List UInt8))∈loads;decide,by show ∀t∈tieL,t.1=[119]->t.2.1=[]->t.2.2.2=((3:Nat):Int)+1;decide⟩
 ·exact ⟨by show (([122]:List UInt8),([]:List UInt8))∈loads;decide,by show ∀t∈tieL,t.1=[122]->t.2.1=[]->t.2.2.2=((4:Nat):Int)+1;decide⟩
def stOf (nm:List UInt8) (x:GX):GS:=.mk 1 (.mk 2 0 nm [] 0 0 0 0 0 []) x [] [] [] 0 0 []
theorem ws_of {nm:List UInt8} {x:GX} (h:(nm,[])∈loads) (hx:WX 6 x):WS 3 (stOf nm x):=.inl ⟨rfl,WX_name h,.inl rfl,hx⟩
def tailS:GS->List AV
 | .mk op to e thn els nm kd ad args=>[encB thn,encB els,.str nm,.int .i64 kd,.int .i64 ad,encA args]
def GS.e:GS->GX
 | .mk op to e thn els nm kd ad args=>e
theorem fa52_2 (y:GS) (r:List AV):(XOp.faddr 52 2).run Tryz.prog [.vptr (encS y++r)]=some (.vptr (encX y.e++(tailS y++r))):=by
 obtain ⟨op,⟨to1,to2,to3,to4,to5,to6,to7,to8,to9,to10⟩,⟨e1,e2,e3,e4,e5,e6,e7,e8,e9,e10⟩,thn,els,nm,kd,ad,args⟩:=y
 rfl
theorem ok_tailS (y:GS):okL (encX y.e++(tailS y++[]))=true:=by
 obtain ⟨op,to,e,thn,els,nm,kd,ad,args⟩:=y
 refine encL_ok.okL_join (okX _) (encL_ok.okL_join ?_ rfl)
 simp only [tailS,okL,okC,okA,okB]
theorem run_load_pre {P:Program} {t:TypeId} {d:TypeDesc} {ti:TypeInfo} (ht:P.underlying t=some d) (ha:aggB d=true) (hi:P.info? t=some ti) {cs:List AV} (hs:ti.size=cs.length) (r:List AV):
  (XOp.load t).run P [.vptr (cs++r)]=some (.agg cs):=by
 show evLoad P h0 t (.vptr _)=_
 unfold evLoad cellsAt
 simp only [ht,ha,hi,hs]
 rw [takeEx_left]
theorem ld49_pre (x:GX) (r:List AV):(XOp.load 49).run Tryz.prog [.vptr (encX x++r)]=some (.agg (encX x)):=
 run_load_pre (ti:=(Tryz.prog.info? 49).get!) Tryz.underlying49 rfl (by kernel_rfl) (by rw [lenX];kernel_rfl) r
theorem p4 {l l2:List UInt8} {a a2:AV} (hp:Pk l a) (hp2:Pk l2 a2) (c:Nat) (hc:c<256):Pure Tryz.prog 4 [a,a2,.int .u8 (c:Int)] (.bool true):=by
 have hA:=hp.1.ok okC8
 have hA2:=hp2.1.ok okC8
 refine pure_shape (sh:=[none,none,none]) (ls:=[a,a2,.int .u8 (c:Int)]) (c:=c4) (n:=300) (t:=t4) mo ov rfl (by simp only [okL,okC,hA,hA2]) rfl (λY _=>known0 _) rfl (by kernel_rfl) λY hf hg=>?_
 unfold t4
 refine VOK_call k12 rfl rfl (VOK_lt rfl rfl (VOK_ite (t:=false) rfl (λh=>by cases h) (λ_=>?_)))
 refine VOK_lt (len22 hp) rfl (VOK_lt (run_gtr ..) rfl (VOK_ite rfl (λ_=>VOK_done rfl) (λ_=>?_)))
 refine VOK_lt (len22 hp2) rfl (VOK_lt (run_gtr ..) rfl (VOK_ite rfl (λ_=>VOK_done rfl) (λ_=>?_)))
 have hr:(c:Int).tmod 5=((c%5:Nat):Int):=by rw [Int.tmod_eq_emod_of_nonneg (by omega)];rfl
 obtain ⟨r,er⟩:∃r:Nat,r=c%5:=⟨_,rfl⟩
 have hr5:r<5:=by omega
 rw [←er]at hr
 refine VOK_lt (r:=.int .u8 (r:Int)) (by rw [←hr];exact run_remi (by decide) ..) rfl (VOK_lt (cv5_3 r (by omega)) rfl (VOK_lt (add_c (by omega) (by omega)) rfl (VOK_lt (sub_c (z:=(r:Int)) (by omega) (by omega) (by omega)) rfl ?_)))
 have hrl:r<toL.length:=hr5
 refine VOK_lt (run_iaddr_sl (enc:=encN) (w:=1) (e:=9) (ti:=(Tryz.prog.info? 9).get!) (l:=toL) Tryz.underlying40 (by kernel_rfl) (by kernel_rfl) (λ_=>rfl) hrl .i64) (encL_ok (λ_=>rfl) _) ?_
 rw [List.drop_eq_getElem_cons hrl]
 refine VOK_lt (r:=.str toL[r]) (run_load_one Tryz.underlying9 rfl _ _) rfl (VOK_call k37 rfl rfl ?_)
 obtain ⟨hld,htie⟩:=toL_tie r hrl
 generalize toL[r]=nm at*
 refine callF' (p14 a hA) rfl (by simp only [okL,hA]) ⟨?_,trivial⟩
 rintro ws rfl
 refine callF' ((pX hp 4 (by decide)).2 0 (1+(r:Int)) (Nat.zero_le _) ⟨by omega,by omega⟩) rfl (by simp only [okL,okC,hA]) ⟨?_,trivial⟩
 rintro ws ⟨x,n,rfl,hx,hn⟩
 have h19:=p19 [stOf nm x] (by simp) (λs hs=>by cases List.mem_singleton.1 hs;exact ws_of hld hx)
 have hok19:=okVB [stOf nm x]
 obtain ⟨zo,zk,znm,zfd,zad,zn,zvk,zvi,zvf,za⟩:=x
 refine callF' h19 rfl hok19 ⟨?_,trivial⟩
 rintro ws ⟨v,b,e,rfl,hv,hb⟩
 (refine it_c rfl rfl (λh=>?_) (λh=>?_)<;>simp only [Cmp,Decidable.not_not,Int.not_lt,Int.not_le]at h<;>try (exfalso;first|exact h trivial|omega))
 ·exact VOK_done rfl
 obtain ⟨rfl,hbl,hT,hL⟩:=hb h
 obtain ⟨y,rfl⟩:=List.length_eq_one_iff.1 hbl
 have hy:=hT y (List.mem_singleton.2 rfl)
 have hLK:=hL 0 (by simp) (by simp)
 have hfa:=fa52_2 y []
 have hot:=ok_tailS y
 obtain ⟨yop,yto,ye,ythn,yels,ynm,ykd,yad,yargs⟩:=y
 obtain ⟨y1,hnt⟩:=hLK rfl
 have hS:TX 6 ye/\ye.kd=yto.kd:=by
  rcases hy with ⟨_,_,_,h6,hkd⟩|⟨h2,_⟩|⟨h4,_⟩
  ·exact ⟨h6,hkd⟩
  ·omega
  ·omega
 have hk:ye.kd=(r:Int)+1:=by
  rw [hS.2]
  obtain ⟨to1,to2,to3,to4,to5,to6,to7,to8,to9,to10⟩:=yto
  exact htie _ (hnt rfl) rfl rfl
 have h6:=hS.1
 refine callF' (p14 a2 hA2) rfl (by simp only [okL,hA2]) ⟨?_,trivial⟩
 rintro ws rfl
 refine callF' (p15 hp2 (Nat.zero_le _)) rfl (by simp only [okL,okC,hA2]) ⟨?_,trivial⟩
 rintro ws ⟨mem,n2,rfl,hm,hn2⟩
 have hTV:=evalX_TV hm 6 ye h6
 have hER:=λe=>evalX_err (mem:=mem) ye e
 have h22:=p22 hm h6
 have h23:=p23 hm 6 ye h6
 have ho22:okL (encVs mem::encX ye)=true:=by rw [okL_cons,okVs];exact okX ye
 have hlx:=λr=>ld49_pre ye r
 refine VOK_lt (run_ia25 [GS.mk yop yto ye ythn yels ynm ykd yad yargs] (i:=0) (by simp)) (encL_ok okS _) (VOK_lt hfa hot ?_)
 refine VOK_ltN (hlx _) (lenX ye) (okX ye) ?_
 obtain ⟨wo,wk,wnm,wfd,wad,wn,wvk,wvi,wvf,wa⟩:=ye
 refine callF' h22 rfl ho22 ⟨?_,trivial⟩
 rintro ws rfl
 refine VOK_lt (run_ia25 [GS.mk yop yto (.mk wo wk wnm wfd wad wn wvk wvi wvf wa) ythn yels ynm ykd yad yargs] (i:=0) (by simp)) (encL_ok okS _) (VOK_lt hfa hot ?_)
 refine VOK_ltN (hlx _) rfl (okX (.mk wo wk wnm wfd wad wn wvk wvi wvf wa)) ?_
 generalize hev:evalX mem (.mk wo wk wnm wfd wad wn wvk wvi wvf wa)=res at*
 refine VOK_call (vs:=encV (outV res)++[.int .i64 (outE res)]) h23 rfl (okVI _ _) ?_
 (refine it_c rfl rfl (λh=>?_) (λh=>?_)<;>simp only [Cmp,Decidable.not_not,Int.not_lt,Int.not_le]at h<;>try (exfalso;first|exact h trivial|omega))
 refine VOK_call (p24 (outV res)) rfl rfl (VOK_ite (t:=true) rfl (λ_=>?_) (λh=>by cases h))
 (refine it_c rfl rfl (λh=>?_) (λh=>?_)<;>simp only [Cmp,Decidable.not_not,Int.not_lt,Int.not_le]at h<;>try (exfalso;first|exact h trivial|omega))
 ·exact VOK_done rfl
 cases res with
 |error e=>
  have h0:e=0:=h
  have:=hER e rfl
  omega
 |ok w=>
  obtain ⟨tw,wkk⟩:=hTV w rfl
  refine VOK_call (p25 (v:=w) tw) rfl rfl (VOK_ite (t:=true) rfl (λ_=>?_) (λh=>by cases h))
  exact VOK_lt (run_eql ..) rfl (VOK_done (congrArg AV.bool (decide_eq_true (by show w.k=1+(r:Int);rw [wkk,hk];omega))))
theorem q4 {c:Int} (wc:(Lit.int .u8 c).wf=true) {l l2:List UInt8} {a a2:AV} (sl:SlV encC 1 l a) (m:l.length<=maxLen) (sl2:SlV encC 1 l2 a2) (m2:l2.length<=maxLen):Pure Tryz.prog 4 [a,a2,.int .u8 c] (.bool true):=by
 have hw:0<=c/\c<=255:=by simpa [Lit.wf,IntKind.min,IntKind.max,IntKind.bits,IntKind.signed]using wc
 obtain ⟨n,rfl⟩:=Int.eq_ofNat_of_zero_le hw.1
 simp only [maxLen]at m m2
 exact p4 ⟨sl,by omega⟩ ⟨sl2,by omega⟩ n (by omega)
end Go.Proofs.YtjconanknjgpnaaGreat.vars
