/-
  Statements of numbers: stmt, Stmts, Prog, Made.
-/
import Derived.Test.YtjconanknjgpnaaFA
import Derived.Test.YtjconanknjgpnaaSyU
set_option maxRecDepth 100000
set_option linter.unusedVariables false
set_option linter.unusedSimpArgs false
namespace Go.Proofs.Ytjconanknjgpnaa.vars
open Go Go.Sx
def RS (l:List UInt8) (d:Nat):Nat->List AV->Prop:=λ_ ws=>∃(x:GS) (n:Nat),ws=encS x++[.int .i64 (n:Int)]/\WS d x/\n<=l.length
def RB (l:List UInt8) (d m:Nat):Nat->List AV->Prop:=λ_ ws=>∃(x:List GS) (n:Nat),ws=[encB x,.int .i64 (n:Int)]/\(x.length<=m/\∀s∈x,WS d s)/\n<=l.length
def PS (l:List UInt8) (a:AV) (d:Nat):Prop:=∀n:Nat,n<=l.length->CF Try.prog 65 ft65 [a,.int .i64 (n:Int),.int .i64 (d:Int)] (RS l (d+1))
def PB (l:List UInt8) (a:AV) (d:Nat):Prop:=∀(n m:Nat),n<=l.length->1<=m->m<=10->CF Try.prog 38 ft38 [a,.int .i64 (n:Int),.int .i64 (m:Int),.int .i64 (d:Int)] (RB l (d+1) m)
theorem okSn (x:GS) (n:Int):okL (encS x++[.int .i64 n])=true:=encL_ok.okL_join (okS x) rfl
theorem finS {l:List UInt8} {d n j:Nat} {x:GS} {hv:List AV} {Y:Sy} {L:List (Nat->List AV->Prop)} (h:denL Y.v hv=encS x++[.int .i64 (n:Int)]) (hw:WS d x) (hn:n<=l.length):VOK Try.prog (QF (RS l d)) L Y (.done (.tup (.int .i64 (.ofNat j)::hv))):=
 VOK_fin (by rw [h];exact okSn x n) ⟨x,n,h,hw,hn⟩
theorem WS_set {d:Nat} {to e:GX} (h1:WX 5 to) (h2:to.op=2\/to.op=3) (h3:WX 5 e):WS (d+1) (.mk 1 to e [] [] [] 0 0 []):=.inl ⟨rfl,h1,h2,h3⟩
theorem WS_call {d:Nat} {to e:GX} {nm:List UInt8} {kd ad:Int} {args:List GX} (h0:nm=[116,109]\/nm=[99]\/nm=[101]) (h1:args.length<=2) (h2:∀a∈args,WX 5 a):WS (d+1) (.mk 4 to e [] [] nm kd ad args):=.inr (.inr ⟨rfl,h0,h1,h2⟩)
theorem WS_if {d:Nat} {op:Int} {to e:GX} {thn els:List GS} {nm:List UInt8} {kd ad:Int} {args:List GX} (h1:op=2\/op=3) (h:WX 5 e) (h2:thn.length<=5) (h3:els.length<=5) (h4:∀s∈thn,WS d s) (h5:∀s∈els,WS d s):WS (d+1) (.mk op to e thn els nm kd ad args):=.inr (.inl ⟨h1,h,h2,h3,h4,h5⟩)
theorem all1 {x:GX} (h:WX 5 x):∀a∈[x],WX 5 a:=λa ha=>by cases List.mem_singleton.1 ha;exact h
theorem all2 {x y:GX} (h:WX 5 x) (h2:WX 5 y):∀a∈[x,y],WX 5 a:=λa ha=>by rcases List.mem_cons.1 ha with rfl|ha;exact h;exact all1 h2 a ha
theorem mk_name {s:List UInt8} (h:(s,[])∈loads):WX 5 (.mk 2 0 s [] 0 0 0 0 0 []):=WX_name h
def c82:VC:=⟨⟨[],[]⟩,[],[],0,true,[]⟩
def t82:VT:=
 (.done (.agg [J 2,J 0,64,.str [],J 0,J 0,J 0,J 0,.flt .f64 0,.nsl]))
def c84:VC:=⟨⟨[],[]⟩,[],[],0,true,[]⟩
def t84:VT:=
 (.done (.agg [J 1,J 0,.str [],.str [],J 0,J 0,64,65,66,.nsl]))
theorem p82 (s:List UInt8):Pure Try.prog 82 [.str s] (.agg (encX (.mk 2 0 s [] 0 0 0 0 0 []))):=by
 refine pure_shape (sh:=[none]) (ls:=[.str s]) (c:=c82) (n:=300) (t:=t82) mo ov rfl rfl rfl (λY _=>known0 _) rfl (by kernel_rfl) λY hf hg=>?_
 unfold t82
 exact VOK_done rfl
theorem p84:Pure Try.prog 84 [.agg [.int .i64 3,.int .i64 1,.flt .f64 0]] (.agg (encX (.mk 1 0 [] [] 0 0 3 1 0 []))):=by
 refine pure_shape (sh:=[some 3]) (ls:=[.int .i64 3,.int .i64 1,.flt .f64 0]) (c:=c84) (n:=300) (t:=t84) mo ov rfl rfl rfl (λY _=>known0 _) rfl (by kernel_rfl) λY hf hg=>?_
 unfold t84
 exact VOK_done rfl
def c65:VC:=⟨⟨[],[]⟩,[(82,[(some 10)]),(84,[(some 10)])],[],1,true,[(64,ft64),(81,ft81),(83,ft83),(38,ft38)]⟩
def t65:VT:=
 (.callF 64 ft64 [64,65,J 12] 67
 (.cons 2
 (.lt (.bin .eql 3 false true) [70,J 0] 72 none
 (.ite 72
 (.lt (.bin .gtr 3 false true) [66,J 0] 73 none
 (.ite 73
 (.callF 81 ft81 [64,71,J 1,J 3] 74
 (.cons 11
 (.lt (.bin .sub 3 false true) [66,J 1] 89 none
 (.callF 38 ft38 [64,88,J 2,89] 90
 (.cons 2
 (.callF 64 ft64 [64,95,J 2] 96
 (.cons 2
 (.lt (.bin .eql 3 false true) [99,J 0] 101 none
 (.ite 101
 (.lt (.bin .sub 3 false true) [66,J 1] 102 none
 (.callF 38 ft38 [64,100,J 2,102] 103
 (.cons 2
 (.done (.tup [J 0,J 2,J 0,J 0,.str [],.str [],J 0,J 0,J 0,J 0,.flt .f64 0,.nsl,78,79,80,81,82,83,84,85,86,87,94,107,.str [],J 0,J 0,.nsl,108]))
 .nil)))
 (.done (.tup [J 0,J 2,J 0,J 0,.str [],.str [],J 0,J 0,J 0,J 0,.flt .f64 0,.nsl,78,79,80,81,82,83,84,85,86,87,94,.nsl,.str [],J 0,J 0,.nsl,100]))))
 .nil))
 .nil)))
 .nil))
 (.lt (.bin .eql 3 false true) [70,J 1] 74 none
 (.ite 74
 (.lt (.bin .gtr 3 false true) [66,J 0] 75 none
 (.ite 75
 (.call 82 [.str [120]] 76 [(some 10)]
 (.callF 83 ft83 [64,71,J 2,J 1] 86
 (.cons 11
 (.lt (.bin .sub 3 false true) [66,J 1] 101 none
 (.callF 38 ft38 [64,100,J 1,101] 102
 (.cons 2
 (.call 82 [.str [120]] 108 [(some 10)]
 (.call 82 [.str [120]] 118 [(some 10)]
 (.call 84 [.agg [J 3,J 1,.flt .f64 0]] 128 [(some 10)]
 (.lt (.app 27 336) [106,.agg [J 1,108,109,110,111,112,113,114,115,116,117,J 4,J 0,.str [],.str [],J 0,J 0,J 0,J 0,.flt .f64 0,.vsl 2 10 [118,119,120,121,122,123,124,125,126,127,128,129,130,131,132,133,134,135,136,137],.nsl,.nsl,.str [],J 0,J 0,.nsl]] 138 none
 (.done (.tup [J 0,J 3,J 0,J 0,.str [],.str [],J 0,J 0,J 0,J 0,.flt .f64 0,.nsl,J 11,J 0,.str [],.str [],J 0,J 0,J 0,J 0,.flt .f64 0,.vsl 2 10 [76,77,78,79,80,81,82,83,84,85,90,91,92,93,94,95,96,97,98,99],138,.nsl,.str [],J 0,J 0,.nsl,107]))))))
 .nil)))
 .nil)))
 (.lt (.bin .eql 3 false true) [70,J 2] 76 none
 (.ite 76
 (.callF 81 ft81 [64,71,J 1,J 2] 77
 (.cons 11
 (.callF 81 ft81 [64,91,J 4,J 2] 92
 (.cons 11
 (.done (.tup [J 0,J 4,J 0,J 0,.str [],.str [],J 0,J 0,J 0,J 0,.flt .f64 0,.nsl,J 0,J 0,.str [],.str [],J 0,J 0,J 0,J 0,.flt .f64 0,.nsl,.nsl,.nsl,.str [116,109],J 0,J 0,.vsl 2 10 [81,82,83,84,85,86,87,88,89,90,96,97,98,99,100,101,102,103,104,105],106]))
 .nil))
 .nil))
 (.lt (.bin .eql 3 false true) [70,J 3] 77 none
 (.ite 77
 (.callF 81 ft81 [64,71,J 1,J 2] 78
 (.cons 11
 (.callF 83 ft83 [64,92,J 2,J 1] 93
 (.cons 11
 (.done (.tup [J 0,J 4,J 0,J 0,.str [],.str [],J 0,J 0,J 0,J 0,.flt .f64 0,.nsl,J 0,J 0,.str [],.str [],J 0,J 0,J 0,J 0,.flt .f64 0,.nsl,.nsl,.nsl,.str [99],J 0,J 0,.vsl 2 10 [82,83,84,85,86,87,88,89,90,91,97,98,99,100,101,102,103,104,105,106],107]))
 .nil))
 .nil))
 (.lt (.bin .eql 3 false true) [70,J 4] 78 none
 (.ite 78
 (.callF 81 ft81 [64,71,J 1,J 2] 79
 (.cons 11
 (.done (.tup [J 0,J 4,J 0,J 0,.str [],.str [],J 0,J 0,J 0,J 0,.flt .f64 0,.nsl,J 0,J 0,.str [],.str [],J 0,J 0,J 0,J 0,.flt .f64 0,.nsl,.nsl,.nsl,.str [101],J 0,J 0,.vsl 1 10 [83,84,85,86,87,88,89,90,91,92],93]))
 .nil))
 (.lt (.bin .eql 3 false true) [70,J 5] 79 none
 (.ite 79
 (.callF 81 ft81 [64,71,J 2,J 2] 80
 (.cons 11
 (.callF 81 ft81 [64,94,J 2,J 3] 95
 (.cons 11
 (.done (.tup [J 0,J 1,J 3,J 0,.str [107],.str [],J 0,J 0,J 0,J 0,.flt .f64 0,.vsl 1 10 [84,85,86,87,88,89,90,91,92,93],99,100,101,102,103,104,105,106,107,108,.nsl,.nsl,.str [],J 0,J 0,.nsl,109]))
 .nil))
 .nil))
 (.callF 64 ft64 [64,71,J 6] 80
 (.cons 2
 (.lt (.iaddr 125) [.vsl 6 1 [.str [111],.str [120],.str [113],.str [121],.str [122],.str [119]],83] 85 none
 (.lt (.load 9) [85] 86 none
 (.lt (.mget 135 [(.str [111],J 2,0),(.str [120],J 2,1),(.str [113],J 1,2),(.str [121],J 3,3),(.str [122],J 5,4),(.str [119],J 4,5)]) [86] 87 none
 (.call 82 [86] 88 [(some 10)]
 (.callF 81 ft81 [64,84,87,J 4] 98
 (.cons 11
 (.done (.tup [J 0,J 1,88,89,90,91,92,93,94,95,96,97,102,103,104,105,106,107,108,109,110,111,.nsl,.nsl,.str [],J 0,J 0,.nsl,112]))
 .nil))))))
 .nil))))))))))))
 (.lt (.bin .eql 3 false true) [70,J 2] 75 none
 (.ite 75
 (.callF 81 ft81 [64,71,J 1,J 2] 76
 (.cons 11
 (.callF 81 ft81 [64,90,J 4,J 2] 91
 (.cons 11
 (.done (.tup [J 0,J 4,J 0,J 0,.str [],.str [],J 0,J 0,J 0,J 0,.flt .f64 0,.nsl,J 0,J 0,.str [],.str [],J 0,J 0,J 0,J 0,.flt .f64 0,.nsl,.nsl,.nsl,.str [116,109],J 0,J 0,.vsl 2 10 [80,81,82,83,84,85,86,87,88,89,95,96,97,98,99,100,101,102,103,104],105]))
 .nil))
 .nil))
 (.lt (.bin .eql 3 false true) [70,J 3] 76 none
 (.ite 76
 (.callF 81 ft81 [64,71,J 1,J 2] 77
 (.cons 11
 (.callF 83 ft83 [64,91,J 2,J 1] 92
 (.cons 11
 (.done (.tup [J 0,J 4,J 0,J 0,.str [],.str [],J 0,J 0,J 0,J 0,.flt .f64 0,.nsl,J 0,J 0,.str [],.str [],J 0,J 0,J 0,J 0,.flt .f64 0,.nsl,.nsl,.nsl,.str [99],J 0,J 0,.vsl 2 10 [81,82,83,84,85,86,87,88,89,90,96,97,98,99,100,101,102,103,104,105],106]))
 .nil))
 .nil))
 (.lt (.bin .eql 3 false true) [70,J 4] 77 none
 (.ite 77
 (.callF 81 ft81 [64,71,J 1,J 2] 78
 (.cons 11
 (.done (.tup [J 0,J 4,J 0,J 0,.str [],.str [],J 0,J 0,J 0,J 0,.flt .f64 0,.nsl,J 0,J 0,.str [],.str [],J 0,J 0,J 0,J 0,.flt .f64 0,.nsl,.nsl,.nsl,.str [101],J 0,J 0,.vsl 1 10 [82,83,84,85,86,87,88,89,90,91],92]))
 .nil))
 (.lt (.bin .eql 3 false true) [70,J 5] 78 none
 (.ite 78
 (.callF 81 ft81 [64,71,J 2,J 2] 79
 (.cons 11
 (.callF 81 ft81 [64,93,J 2,J 3] 94
 (.cons 11
 (.done (.tup [J 0,J 1,J 3,J 0,.str [107],.str [],J 0,J 0,J 0,J 0,.flt .f64 0,.vsl 1 10 [83,84,85,86,87,88,89,90,91,92],98,99,100,101,102,103,104,105,106,107,.nsl,.nsl,.str [],J 0,J 0,.nsl,108]))
 .nil))
 .nil))
 (.callF 64 ft64 [64,71,J 6] 79
 (.cons 2
 (.lt (.iaddr 125) [.vsl 6 1 [.str [111],.str [120],.str [113],.str [121],.str [122],.str [119]],82] 84 none
 (.lt (.load 9) [84] 85 none
 (.lt (.mget 135 [(.str [111],J 2,0),(.str [120],J 2,1),(.str [113],J 1,2),(.str [121],J 3,3),(.str [122],J 5,4),(.str [119],J 4,5)]) [85] 86 none
 (.call 82 [85] 87 [(some 10)]
 (.callF 81 ft81 [64,83,86,J 4] 97
 (.cons 11
 (.done (.tup [J 0,J 1,87,88,89,90,91,92,93,94,95,96,101,102,103,104,105,106,107,108,109,110,.nsl,.nsl,.str [],J 0,J 0,.nsl,111]))
 .nil))))))
 .nil))))))))))))))
 (.lt (.bin .eql 3 false true) [70,J 1] 73 none
 (.ite 73
 (.lt (.bin .gtr 3 false true) [66,J 0] 74 none
 (.ite 74
 (.call 82 [.str [120]] 75 [(some 10)]
 (.callF 83 ft83 [64,71,J 2,J 1] 85
 (.cons 11
 (.lt (.bin .sub 3 false true) [66,J 1] 100 none
 (.callF 38 ft38 [64,99,J 1,100] 101
 (.cons 2
 (.call 82 [.str [120]] 107 [(some 10)]
 (.call 82 [.str [120]] 117 [(some 10)]
 (.call 84 [.agg [J 3,J 1,.flt .f64 0]] 127 [(some 10)]
 (.lt (.app 27 336) [105,.agg [J 1,107,108,109,110,111,112,113,114,115,116,J 4,J 0,.str [],.str [],J 0,J 0,J 0,J 0,.flt .f64 0,.vsl 2 10 [117,118,119,120,121,122,123,124,125,126,127,128,129,130,131,132,133,134,135,136],.nsl,.nsl,.str [],J 0,J 0,.nsl]] 137 none
 (.done (.tup [J 0,J 3,J 0,J 0,.str [],.str [],J 0,J 0,J 0,J 0,.flt .f64 0,.nsl,J 11,J 0,.str [],.str [],J 0,J 0,J 0,J 0,.flt .f64 0,.vsl 2 10 [75,76,77,78,79,80,81,82,83,84,89,90,91,92,93,94,95,96,97,98],137,.nsl,.str [],J 0,J 0,.nsl,106]))))))
 .nil)))
 .nil)))
 (.lt (.bin .eql 3 false true) [70,J 2] 75 none
 (.ite 75
 (.callF 81 ft81 [64,71,J 1,J 2] 76
 (.cons 11
 (.callF 81 ft81 [64,90,J 4,J 2] 91
 (.cons 11
 (.done (.tup [J 0,J 4,J 0,J 0,.str [],.str [],J 0,J 0,J 0,J 0,.flt .f64 0,.nsl,J 0,J 0,.str [],.str [],J 0,J 0,J 0,J 0,.flt .f64 0,.nsl,.nsl,.nsl,.str [116,109],J 0,J 0,.vsl 2 10 [80,81,82,83,84,85,86,87,88,89,95,96,97,98,99,100,101,102,103,104],105]))
 .nil))
 .nil))
 (.lt (.bin .eql 3 false true) [70,J 3] 76 none
 (.ite 76
 (.callF 81 ft81 [64,71,J 1,J 2] 77
 (.cons 11
 (.callF 83 ft83 [64,91,J 2,J 1] 92
 (.cons 11
 (.done (.tup [J 0,J 4,J 0,J 0,.str [],.str [],J 0,J 0,J 0,J 0,.flt .f64 0,.nsl,J 0,J 0,.str [],.str [],J 0,J 0,J 0,J 0,.flt .f64 0,.nsl,.nsl,.nsl,.str [99],J 0,J 0,.vsl 2 10 [81,82,83,84,85,86,87,88,89,90,96,97,98,99,100,101,102,103,104,105],106]))
 .nil))
 .nil))
 (.lt (.bin .eql 3 false true) [70,J 4] 77 none
 (.ite 77
 (.callF 81 ft81 [64,71,J 1,J 2] 78
 (.cons 11
 (.done (.tup [J 0,J 4,J 0,J 0,.str [],.str [],J 0,J 0,J 0,J 0,.flt .f64 0,.nsl,J 0,J 0,.str [],.str [],J 0,J 0,J 0,J 0,.flt .f64 0,.nsl,.nsl,.nsl,.str [101],J 0,J 0,.vsl 1 10 [82,83,84,85,86,87,88,89,90,91],92]))
 .nil))
 (.lt (.bin .eql 3 false true) [70,J 5] 78 none
 (.ite 78
 (.callF 81 ft81 [64,71,J 2,J 2] 79
 (.cons 11
 (.callF 81 ft81 [64,93,J 2,J 3] 94
 (.cons 11
 (.done (.tup [J 0,J 1,J 3,J 0,.str [107],.str [],J 0,J 0,J 0,J 0,.flt .f64 0,.vsl 1 10 [83,84,85,86,87,88,89,90,91,92],98,99,100,101,102,103,104,105,106,107,.nsl,.nsl,.str [],J 0,J 0,.nsl,108]))
 .nil))
 .nil))
 (.callF 64 ft64 [64,71,J 6] 79
 (.cons 2
 (.lt (.iaddr 125) [.vsl 6 1 [.str [111],.str [120],.str [113],.str [121],.str [122],.str [119]],82] 84 none
 (.lt (.load 9) [84] 85 none
 (.lt (.mget 135 [(.str [111],J 2,0),(.str [120],J 2,1),(.str [113],J 1,2),(.str [121],J 3,3),(.str [122],J 5,4),(.str [119],J 4,5)]) [85] 86 none
 (.call 82 [85] 87 [(some 10)]
 (.callF 81 ft81 [64,83,86,J 4] 97
 (.cons 11
 (.done (.tup [J 0,J 1,87,88,89,90,91,92,93,94,95,96,101,102,103,104,105,106,107,108,109,110,.nsl,.nsl,.str [],J 0,J 0,.nsl,111]))
 .nil))))))
 .nil))))))))))))
 (.lt (.bin .eql 3 false true) [70,J 2] 74 none
 (.ite 74
 (.callF 81 ft81 [64,71,J 1,J 2] 75
 (.cons 11
 (.callF 81 ft81 [64,89,J 4,J 2] 90
 (.cons 11
 (.done (.tup [J 0,J 4,J 0,J 0,.str [],.str [],J 0,J 0,J 0,J 0,.flt .f64 0,.nsl,J 0,J 0,.str [],.str [],J 0,J 0,J 0,J 0,.flt .f64 0,.nsl,.nsl,.nsl,.str [116,109],J 0,J 0,.vsl 2 10 [79,80,81,82,83,84,85,86,87,88,94,95,96,97,98,99,100,101,102,103],104]))
 .nil))
 .nil))
 (.lt (.bin .eql 3 false true) [70,J 3] 75 none
 (.ite 75
 (.callF 81 ft81 [64,71,J 1,J 2] 76
 (.cons 11
 (.callF 83 ft83 [64,90,J 2,J 1] 91
 (.cons 11
 (.done (.tup [J 0,J 4,J 0,J 0,.str [],.str [],J 0,J 0,J 0,J 0,.flt .f64 0,.nsl,J 0,J 0,.str [],.str [],J 0,J 0,J 0,J 0,.flt .f64 0,.nsl,.nsl,.nsl,.str [99],J 0,J 0,.vsl 2 10 [80,81,82,83,84,85,86,87,88,89,95,96,97,98,99,100,101,102,103,104],105]))
 .nil))
 .nil))
 (.lt (.bin .eql 3 false true) [70,J 4] 76 none
 (.ite 76
 (.callF 81 ft81 [64,71,J 1,J 2] 77
 (.cons 11
 (.done (.tup [J 0,J 4,J 0,J 0,.str [],.str [],J 0,J 0,J 0,J 0,.flt .f64 0,.nsl,J 0,J 0,.str [],.str [],J 0,J 0,J 0,J 0,.flt .f64 0,.nsl,.nsl,.nsl,.str [101],J 0,J 0,.vsl 1 10 [81,82,83,84,85,86,87,88,89,90],91]))
 .nil))
 (.lt (.bin .eql 3 false true) [70,J 5] 77 none
 (.ite 77
 (.callF 81 ft81 [64,71,J 2,J 2] 78
 (.cons 11
 (.callF 81 ft81 [64,92,J 2,J 3] 93
 (.cons 11
 (.done (.tup [J 0,J 1,J 3,J 0,.str [107],.str [],J 0,J 0,J 0,J 0,.flt .f64 0,.vsl 1 10 [82,83,84,85,86,87,88,89,90,91],97,98,99,100,101,102,103,104,105,106,.nsl,.nsl,.str [],J 0,J 0,.nsl,107]))
 .nil))
 .nil))
 (.callF 64 ft64 [64,71,J 6] 78
 (.cons 2
 (.lt (.iaddr 125) [.vsl 6 1 [.str [111],.str [120],.str [113],.str [121],.str [122],.str [119]],81] 83 none
 (.lt (.load 9) [83] 84 none
 (.lt (.mget 135 [(.str [111],J 2,0),(.str [120],J 2,1),(.str [113],J 1,2),(.str [121],J 3,3),(.str [122],J 5,4),(.str [119],J 4,5)]) [84] 85 none
 (.call 82 [84] 86 [(some 10)]
 (.callF 81 ft81 [64,82,85,J 4] 96
 (.cons 11
 (.done (.tup [J 0,J 1,86,87,88,89,90,91,92,93,94,95,100,101,102,103,104,105,106,107,108,109,.nsl,.nsl,.str [],J 0,J 0,.nsl,110]))
 .nil))))))
 .nil))))))))))))))
 .nil))
def c38:VC:=⟨⟨[],[]⟩,[],[(0,[⟨[(8,.slx 0 0 0),(2,67),(0,.ptr 0 0),(7,.slx 1 27 1)],[(0,[64,.slx 2 0 0])],2,3,[⟨1,27,1,7,none⟩],[],[]⟩])],1,true,[(64,ft64),(65,ft65)]⟩
def t38:VT:=
 (.callF 64 ft64 [64,65,66] 68
 (.cons 2
 (.lt (.bin .add 3 false true) [71,J 1] 73 none
 (.loop 74 0 [73,.nsl,72]
 (.cons 3
 (.lt (.bin .gtr 3 false true) [74,J 0] 77 none
 (.ite 77
 (.callF 65 ft65 [64,76,67] 78
 (.cons 28
 (.lt (.app 27 336) [75,.agg [81,82,83,84,85,86,87,88,89,90,91,92,93,94,95,96,97,98,99,100,101,102,103,104,105,106,107]] 109 none
 (.lt (.bin .sub 3 false true) [74,J 1] 110 none
 (.again 0 0 [110,109,108])))
 .nil))
 (.done (.tup [J 0,75,76]))))
 .nil)))
 .nil))
theorem run_app27 (l:List GS) (s:GS) (hl:l.length<=1000):(XOp.app 27 336).run Try.prog [encB l,.agg (encS s)]=some (encB (l++[s])):=by
 rw [encB_eq,encB_eq]
 exact run_app_sl lenS (by decide) (by decide) l s (by omega)
theorem okR {a:AV} (h:okC a=true) {n m k:Int}:okL [a,.int .i64 n,.int .i64 m,.int .i64 k]=true:=by simp only [okL,okC,h]
theorem p65 {l:List UInt8} {a:AV} (hp:Pk l a) (d:Nat) (hd2:d<=100) (hB:∀e,d=e+1->PB l a e):PS l a d:=by
 intro n hn
 have hA:=hp.1.ok okC8
 have h2:∀(n:Nat) (k:Int),n<=l.length->1<=k/\k<=5->CF Try.prog 81 ftX [a,.int .i64 (n:Int),.int .i64 k,.int .i64 2] (RX l 2):=(pX hp 1 (by decide)).2
 have h3:∀(n:Nat) (k:Int),n<=l.length->1<=k/\k<=5->CF Try.prog 81 ftX [a,.int .i64 (n:Int),.int .i64 k,.int .i64 3] (RX l 3):=(pX hp 2 (by decide)).2
 have h4:∀(n:Nat) (k:Int),n<=l.length->1<=k/\k<=5->CF Try.prog 81 ftX [a,.int .i64 (n:Int),.int .i64 k,.int .i64 4] (RX l 4):=(pX hp 3 (by decide)).2
 have h31:∀(n:Nat) (k:Int),n<=l.length->1<=k/\k<=5->CF Try.prog 83 ftX [a,.int .i64 (n:Int),.int .i64 k,.int .i64 1] (RX l 1):=(pX hp 0 (by decide)).1
 refine cf_tree (c:=c65) (n:=300) (t:=t65) mo ov rfl (λY _=>known0 _) (by kernel_rfl) λY hf hg=>?_
 unfold t65
 (refine callF' (p64i hp hn (by first|decide|omega) (by first|decide|omega)) rfl (okP hA) ⟨?_,trivial⟩;intro ws hw;rcases hw with ⟨v,n,rfl,hv,hn⟩)
 (refine it_b rfl rfl (λh=>?_) (λh=>?_)<;>rw [cmpB]at h)
 ·(refine it_b rfl rfl (λh=>?_) (λh=>?_)<;>rw [cmpB]at h)
  ·obtain ⟨e,rfl⟩:∃e,d=e+1:=⟨d-1,by simp at h;omega⟩
   have hB:=hB e rfl
   (refine callF' (h3 _ _ hn (by decide)) rfl (okQ hA) ⟨?_,trivial⟩;intro ws hw;obtain ⟨⟨op,kd,nm,fd,ad,nn,vk,vi,vf,args⟩,n,rfl,hx,hn⟩:=hw;replace hx:=WX_mono (e:=5) (by decide) hx)
   refine VOK_lt (sub_c (z:=(e:Int)) (by omega) (by omega) (by omega)) rfl ?_
   refine callF' (hB _ 2 hn (by decide) (by decide)) rfl (okR hA) ⟨?_,trivial⟩
   rintro ws ⟨thn,n,rfl,⟨ht,hts⟩,hn⟩
   (refine callF' (p64i hp hn (by first|decide|omega) (by first|decide|omega)) rfl (okP hA) ⟨?_,trivial⟩;intro ws hw;rcases hw with ⟨v,n,rfl,hv,hn⟩)
   (refine it_b rfl rfl (λh=>?_) (λh=>?_)<;>rw [cmpB]at h)
   ·refine VOK_lt (sub_c (z:=(e:Int)) (by omega) (by omega) (by omega)) rfl ?_
    refine callF' (hB _ 2 hn (by decide) (by decide)) rfl (okR hA) ⟨?_,trivial⟩
    rintro ws ⟨els,n,rfl,⟨he,hes⟩,hn⟩
    exact finS (x:=.mk _ (.mk _ _ _ _ _ _ _ _ _ []) (.mk _ _ _ _ _ _ _ _ _ _) thn els _ _ _ []) rfl (WS_if (.inl rfl) (by assumption) (by omega) (by omega) hts hes) hn
   ·exact finS (x:=.mk _ (.mk _ _ _ _ _ _ _ _ _ []) (.mk _ _ _ _ _ _ _ _ _ _) thn [] _ _ _ []) rfl (WS_if (.inl rfl) (by assumption) (by omega) (by decide) hts (λs hs=>(List.not_mem_nil hs).elim)) hn
  ·(
    (refine it_b rfl rfl (λh=>?_) (λh=>?_)<;>rw [cmpB]at h)
    ·(refine it_b rfl rfl (λh=>?_) (λh=>?_)<;>rw [cmpB]at h)
     ·obtain ⟨e,rfl⟩:∃e,d=e+1:=⟨d-1,by simp at h;omega⟩
      have hB:=hB e rfl
      refine VOK_call (p82 _) rfl rfl ?_
      (refine callF' (h31 _ _ hn (by first|decide|(simp only [decide_eq_true_eq,decide_eq_false_iff_not]at *; omega))) rfl (okQ hA) ⟨?_,trivial⟩;intro ws hw;obtain ⟨⟨op,kd,nm,fd,ad,nn,vk,vi,vf,args⟩,n,rfl,hx,hn⟩:=hw)
      refine VOK_lt (sub_c (z:=(e:Int)) (by omega) (by omega) (by omega)) rfl ?_
      refine callF' (hB _ 1 hn (by decide) (by decide)) rfl (okR hA) ⟨?_,trivial⟩
      rintro ws ⟨thn,n,rfl,⟨ht,hts⟩,hn⟩
      refine VOK_call (p82 _) rfl rfl (VOK_call (p82 _) rfl rfl (VOK_call p84 rfl rfl ?_))
      refine VOK_lt (run_app27 thn (.mk 1 (.mk _ _ _ _ _ _ _ _ _ []) (.mk _ _ _ _ _ _ _ _ _ [.mk _ _ _ _ _ _ _ _ _ [],.mk _ _ _ _ _ _ _ _ _ []]) [] [] _ _ _ []) (by omega)) (okB _) ?_
      refine finS (x:=.mk _ (.mk _ _ _ _ _ _ _ _ _ []) (.mk _ _ _ _ _ _ _ _ _ [.mk _ _ _ _ _ _ _ _ _ [],.mk _ _ _ _ _ _ _ _ _ _]) (thn++[_]) [] _ _ _ []) rfl (WS_if (.inr rfl) ?_ ?_ (by decide) ?_ (λs hs=>(List.not_mem_nil hs).elim)) hn
      ·exact WX_2 (by decide) (WX_name (by decide)) (WX_mono (e:=4) (by decide) hx)
      ·rw [List.length_append];simp;omega
      ·intro s hs
       rcases List.mem_append.1 hs with hs|hs
       ·exact hts s hs
       ·cases List.mem_singleton.1 hs
        exact WS_set (mk_name (by decide)) (.inl rfl) (WX_2 (by decide) (WX_name (by decide)) (WX_lit (by unfold LitOk;omega) (.inl rfl)))
     ·(
       (refine it_b rfl rfl (λh=>?_) (λh=>?_)<;>rw [cmpB]at h)
       ·(refine callF' (h2 _ _ hn (by decide)) rfl (okQ hA) ⟨?_,trivial⟩;intro ws hw;obtain ⟨⟨op,kd,nm,fd,ad,nn,vk,vi,vf,args⟩,n,rfl,hx,hn⟩:=hw;replace hx:=WX_mono (e:=5) (by decide) hx);(refine callF' (h2 _ _ hn (by decide)) rfl (okQ hA) ⟨?_,trivial⟩;intro ws hw;obtain ⟨⟨op,kd,nm,fd,ad,nn,vk,vi,vf,args⟩,n,rfl,hx,hn⟩:=hw;replace hx:=WX_mono (e:=5) (by decide) hx);exact finS (x:=.mk _ (.mk _ _ _ _ _ _ _ _ _ []) (.mk _ _ _ _ _ _ _ _ _ []) [] [] _ _ _ [.mk _ _ _ _ _ _ _ _ _ _,.mk _ _ _ _ _ _ _ _ _ _]) rfl (WS_call (by decide) (by simp) (all2 (by assumption) (by assumption))) hn
       (refine it_b rfl rfl (λh=>?_) (λh=>?_)<;>rw [cmpB]at h)
       ·(refine callF' (h2 _ _ hn (by decide)) rfl (okQ hA) ⟨?_,trivial⟩;intro ws hw;obtain ⟨⟨op,kd,nm,fd,ad,nn,vk,vi,vf,args⟩,n,rfl,hx,hn⟩:=hw;replace hx:=WX_mono (e:=5) (by decide) hx);(refine callF' (h31 _ _ hn (by decide)) rfl (okQ hA) ⟨?_,trivial⟩;intro ws hw;obtain ⟨⟨op,kd,nm,fd,ad,nn,vk,vi,vf,args⟩,n,rfl,hx,hn⟩:=hw;replace hx:=WX_mono (e:=5) (by decide) hx);exact finS (x:=.mk _ (.mk _ _ _ _ _ _ _ _ _ []) (.mk _ _ _ _ _ _ _ _ _ []) [] [] _ _ _ [.mk _ _ _ _ _ _ _ _ _ _,.mk _ _ _ _ _ _ _ _ _ _]) rfl (WS_call (by decide) (by simp) (all2 (by assumption) (by assumption))) hn
       (refine it_b rfl rfl (λh=>?_) (λh=>?_)<;>rw [cmpB]at h)
       ·(refine callF' (h2 _ _ hn (by decide)) rfl (okQ hA) ⟨?_,trivial⟩;intro ws hw;obtain ⟨⟨op,kd,nm,fd,ad,nn,vk,vi,vf,args⟩,n,rfl,hx,hn⟩:=hw;replace hx:=WX_mono (e:=5) (by decide) hx);exact finS (x:=.mk _ (.mk _ _ _ _ _ _ _ _ _ []) (.mk _ _ _ _ _ _ _ _ _ []) [] [] _ _ _ [.mk _ _ _ _ _ _ _ _ _ _]) rfl (WS_call (by decide) (by simp) (all1 (by assumption))) hn
       (refine it_b rfl rfl (λh=>?_) (λh=>?_)<;>rw [cmpB]at h)
       ·(refine callF' (h2 _ _ hn (by first|decide|(simp only [decide_eq_true_eq,decide_eq_false_iff_not]at *; omega))) rfl (okQ hA) ⟨?_,trivial⟩;intro ws hw;obtain ⟨⟨op,kd,nm,fd,ad,nn,vk,vi,vf,args⟩,n,rfl,hx,hn⟩:=hw);rename WX _ _=>hx0;(refine callF' (h3 _ _ hn (by decide)) rfl (okQ hA) ⟨?_,trivial⟩;intro ws hw;obtain ⟨⟨op,kd,nm,fd,ad,nn,vk,vi,vf,args⟩,n,rfl,hx,hn⟩:=hw;replace hx:=WX_mono (e:=5) (by decide) hx)
        exact finS (x:=.mk _ (.mk _ _ _ _ _ _ _ _ _ [.mk _ _ _ _ _ _ _ _ _ _]) (.mk _ _ _ _ _ _ _ _ _ _) [] [] _ _ _ []) rfl (WS_set (WX_mono (d:=4) (by decide) (WX_1 (by decide) hx0)) (.inr rfl) (by assumption)) hn
       ·(refine callF' (p64i hp hn (by first|decide|omega) (by first|decide|omega)) rfl (okP hA) ⟨?_,trivial⟩;intro ws hw;rcases hw with ⟨v,n,rfl,hv,hn⟩)
        have e6:v=0\/v=1\/v=2\/v=3\/v=4\/v=5:=by omega
        rcases e6 with rfl|rfl|rfl|rfl|rfl|rfl
        all_goals
         refine VOK_lt rfl rfl (VOK_lt rfl rfl (VOK_lt rfl rfl (VOK_call (p82 _) rfl rfl ?_)))
         (refine callF' (h4 _ _ hn (by decide)) rfl (okQ hA) ⟨?_,trivial⟩;intro ws hw;obtain ⟨⟨op,kd,nm,fd,ad,nn,vk,vi,vf,args⟩,n,rfl,hx,hn⟩:=hw;replace hx:=WX_mono (e:=5) (by decide) hx)
         exact finS (x:=.mk _ (.mk _ _ _ _ _ _ _ _ _ []) (.mk _ _ _ _ _ _ _ _ _ _) [] [] _ _ _ []) rfl (WS_set (mk_name (by decide)) (.inl rfl) (by assumption)) hn)
    ·(
      (refine it_b rfl rfl (λh=>?_) (λh=>?_)<;>rw [cmpB]at h)
      ·(refine callF' (h2 _ _ hn (by decide)) rfl (okQ hA) ⟨?_,trivial⟩;intro ws hw;obtain ⟨⟨op,kd,nm,fd,ad,nn,vk,vi,vf,args⟩,n,rfl,hx,hn⟩:=hw;replace hx:=WX_mono (e:=5) (by decide) hx);(refine callF' (h2 _ _ hn (by decide)) rfl (okQ hA) ⟨?_,trivial⟩;intro ws hw;obtain ⟨⟨op,kd,nm,fd,ad,nn,vk,vi,vf,args⟩,n,rfl,hx,hn⟩:=hw;replace hx:=WX_mono (e:=5) (by decide) hx);exact finS (x:=.mk _ (.mk _ _ _ _ _ _ _ _ _ []) (.mk _ _ _ _ _ _ _ _ _ []) [] [] _ _ _ [.mk _ _ _ _ _ _ _ _ _ _,.mk _ _ _ _ _ _ _ _ _ _]) rfl (WS_call (by decide) (by simp) (all2 (by assumption) (by assumption))) hn
      (refine it_b rfl rfl (λh=>?_) (λh=>?_)<;>rw [cmpB]at h)
      ·(refine callF' (h2 _ _ hn (by decide)) rfl (okQ hA) ⟨?_,trivial⟩;intro ws hw;obtain ⟨⟨op,kd,nm,fd,ad,nn,vk,vi,vf,args⟩,n,rfl,hx,hn⟩:=hw;replace hx:=WX_mono (e:=5) (by decide) hx);(refine callF' (h31 _ _ hn (by decide)) rfl (okQ hA) ⟨?_,trivial⟩;intro ws hw;obtain ⟨⟨op,kd,nm,fd,ad,nn,vk,vi,vf,args⟩,n,rfl,hx,hn⟩:=hw;replace hx:=WX_mono (e:=5) (by decide) hx);exact finS (x:=.mk _ (.mk _ _ _ _ _ _ _ _ _ []) (.mk _ _ _ _ _ _ _ _ _ []) [] [] _ _ _ [.mk _ _ _ _ _ _ _ _ _ _,.mk _ _ _ _ _ _ _ _ _ _]) rfl (WS_call (by decide) (by simp) (all2 (by assumption) (by assumption))) hn
      (refine it_b rfl rfl (λh=>?_) (λh=>?_)<;>rw [cmpB]at h)
      ·(refine callF' (h2 _ _ hn (by decide)) rfl (okQ hA) ⟨?_,trivial⟩;intro ws hw;obtain ⟨⟨op,kd,nm,fd,ad,nn,vk,vi,vf,args⟩,n,rfl,hx,hn⟩:=hw;replace hx:=WX_mono (e:=5) (by decide) hx);exact finS (x:=.mk _ (.mk _ _ _ _ _ _ _ _ _ []) (.mk _ _ _ _ _ _ _ _ _ []) [] [] _ _ _ [.mk _ _ _ _ _ _ _ _ _ _]) rfl (WS_call (by decide) (by simp) (all1 (by assumption))) hn
      (refine it_b rfl rfl (λh=>?_) (λh=>?_)<;>rw [cmpB]at h)
      ·(refine callF' (h2 _ _ hn (by first|decide|(simp only [decide_eq_true_eq,decide_eq_false_iff_not]at *; omega))) rfl (okQ hA) ⟨?_,trivial⟩;intro ws hw;obtain ⟨⟨op,kd,nm,fd,ad,nn,vk,vi,vf,args⟩,n,rfl,hx,hn⟩:=hw);rename WX _ _=>hx0;(refine callF' (h3 _ _ hn (by decide)) rfl (okQ hA) ⟨?_,trivial⟩;intro ws hw;obtain ⟨⟨op,kd,nm,fd,ad,nn,vk,vi,vf,args⟩,n,rfl,hx,hn⟩:=hw;replace hx:=WX_mono (e:=5) (by decide) hx)
       exact finS (x:=.mk _ (.mk _ _ _ _ _ _ _ _ _ [.mk _ _ _ _ _ _ _ _ _ _]) (.mk _ _ _ _ _ _ _ _ _ _) [] [] _ _ _ []) rfl (WS_set (WX_mono (d:=4) (by decide) (WX_1 (by decide) hx0)) (.inr rfl) (by assumption)) hn
      ·(refine callF' (p64i hp hn (by first|decide|omega) (by first|decide|omega)) rfl (okP hA) ⟨?_,trivial⟩;intro ws hw;rcases hw with ⟨v,n,rfl,hv,hn⟩)
       have e6:v=0\/v=1\/v=2\/v=3\/v=4\/v=5:=by omega
       rcases e6 with rfl|rfl|rfl|rfl|rfl|rfl
       all_goals
        refine VOK_lt rfl rfl (VOK_lt rfl rfl (VOK_lt rfl rfl (VOK_call (p82 _) rfl rfl ?_)))
        (refine callF' (h4 _ _ hn (by decide)) rfl (okQ hA) ⟨?_,trivial⟩;intro ws hw;obtain ⟨⟨op,kd,nm,fd,ad,nn,vk,vi,vf,args⟩,n,rfl,hx,hn⟩:=hw;replace hx:=WX_mono (e:=5) (by decide) hx)
        exact finS (x:=.mk _ (.mk _ _ _ _ _ _ _ _ _ []) (.mk _ _ _ _ _ _ _ _ _ _) [] [] _ _ _ []) rfl (WS_set (mk_name (by decide)) (.inl rfl) (by assumption)) hn))
 ·(
   (refine it_b rfl rfl (λh=>?_) (λh=>?_)<;>rw [cmpB]at h)
   ·(refine it_b rfl rfl (λh=>?_) (λh=>?_)<;>rw [cmpB]at h)
    ·obtain ⟨e,rfl⟩:∃e,d=e+1:=⟨d-1,by simp at h;omega⟩
     have hB:=hB e rfl
     refine VOK_call (p82 _) rfl rfl ?_
     (refine callF' (h31 _ _ hn (by first|decide|(simp only [decide_eq_true_eq,decide_eq_false_iff_not]at *; omega))) rfl (okQ hA) ⟨?_,trivial⟩;intro ws hw;obtain ⟨⟨op,kd,nm,fd,ad,nn,vk,vi,vf,args⟩,n,rfl,hx,hn⟩:=hw)
     refine VOK_lt (sub_c (z:=(e:Int)) (by omega) (by omega) (by omega)) rfl ?_
     refine callF' (hB _ 1 hn (by decide) (by decide)) rfl (okR hA) ⟨?_,trivial⟩
     rintro ws ⟨thn,n,rfl,⟨ht,hts⟩,hn⟩
     refine VOK_call (p82 _) rfl rfl (VOK_call (p82 _) rfl rfl (VOK_call p84 rfl rfl ?_))
     refine VOK_lt (run_app27 thn (.mk 1 (.mk _ _ _ _ _ _ _ _ _ []) (.mk _ _ _ _ _ _ _ _ _ [.mk _ _ _ _ _ _ _ _ _ [],.mk _ _ _ _ _ _ _ _ _ []]) [] [] _ _ _ []) (by omega)) (okB _) ?_
     refine finS (x:=.mk _ (.mk _ _ _ _ _ _ _ _ _ []) (.mk _ _ _ _ _ _ _ _ _ [.mk _ _ _ _ _ _ _ _ _ [],.mk _ _ _ _ _ _ _ _ _ _]) (thn++[_]) [] _ _ _ []) rfl (WS_if (.inr rfl) ?_ ?_ (by decide) ?_ (λs hs=>(List.not_mem_nil hs).elim)) hn
     ·exact WX_2 (by decide) (WX_name (by decide)) (WX_mono (e:=4) (by decide) hx)
     ·rw [List.length_append];simp;omega
     ·intro s hs
      rcases List.mem_append.1 hs with hs|hs
      ·exact hts s hs
      ·cases List.mem_singleton.1 hs
       exact WS_set (mk_name (by decide)) (.inl rfl) (WX_2 (by decide) (WX_name (by decide)) (WX_lit (by unfold LitOk;omega) (.inl rfl)))
    ·(
      (refine it_b rfl rfl (λh=>?_) (λh=>?_)<;>rw [cmpB]at h)
      ·(refine callF' (h2 _ _ hn (by decide)) rfl (okQ hA) ⟨?_,trivial⟩;intro ws hw;obtain ⟨⟨op,kd,nm,fd,ad,nn,vk,vi,vf,args⟩,n,rfl,hx,hn⟩:=hw;replace hx:=WX_mono (e:=5) (by decide) hx);(refine callF' (h2 _ _ hn (by decide)) rfl (okQ hA) ⟨?_,trivial⟩;intro ws hw;obtain ⟨⟨op,kd,nm,fd,ad,nn,vk,vi,vf,args⟩,n,rfl,hx,hn⟩:=hw;replace hx:=WX_mono (e:=5) (by decide) hx);exact finS (x:=.mk _ (.mk _ _ _ _ _ _ _ _ _ []) (.mk _ _ _ _ _ _ _ _ _ []) [] [] _ _ _ [.mk _ _ _ _ _ _ _ _ _ _,.mk _ _ _ _ _ _ _ _ _ _]) rfl (WS_call (by decide) (by simp) (all2 (by assumption) (by assumption))) hn
      (refine it_b rfl rfl (λh=>?_) (λh=>?_)<;>rw [cmpB]at h)
      ·(refine callF' (h2 _ _ hn (by decide)) rfl (okQ hA) ⟨?_,trivial⟩;intro ws hw;obtain ⟨⟨op,kd,nm,fd,ad,nn,vk,vi,vf,args⟩,n,rfl,hx,hn⟩:=hw;replace hx:=WX_mono (e:=5) (by decide) hx);(refine callF' (h31 _ _ hn (by decide)) rfl (okQ hA) ⟨?_,trivial⟩;intro ws hw;obtain ⟨⟨op,kd,nm,fd,ad,nn,vk,vi,vf,args⟩,n,rfl,hx,hn⟩:=hw;replace hx:=WX_mono (e:=5) (by decide) hx);exact finS (x:=.mk _ (.mk _ _ _ _ _ _ _ _ _ []) (.mk _ _ _ _ _ _ _ _ _ []) [] [] _ _ _ [.mk _ _ _ _ _ _ _ _ _ _,.mk _ _ _ _ _ _ _ _ _ _]) rfl (WS_call (by decide) (by simp) (all2 (by assumption) (by assumption))) hn
      (refine it_b rfl rfl (λh=>?_) (λh=>?_)<;>rw [cmpB]at h)
      ·(refine callF' (h2 _ _ hn (by decide)) rfl (okQ hA) ⟨?_,trivial⟩;intro ws hw;obtain ⟨⟨op,kd,nm,fd,ad,nn,vk,vi,vf,args⟩,n,rfl,hx,hn⟩:=hw;replace hx:=WX_mono (e:=5) (by decide) hx);exact finS (x:=.mk _ (.mk _ _ _ _ _ _ _ _ _ []) (.mk _ _ _ _ _ _ _ _ _ []) [] [] _ _ _ [.mk _ _ _ _ _ _ _ _ _ _]) rfl (WS_call (by decide) (by simp) (all1 (by assumption))) hn
      (refine it_b rfl rfl (λh=>?_) (λh=>?_)<;>rw [cmpB]at h)
      ·(refine callF' (h2 _ _ hn (by first|decide|(simp only [decide_eq_true_eq,decide_eq_false_iff_not]at *; omega))) rfl (okQ hA) ⟨?_,trivial⟩;intro ws hw;obtain ⟨⟨op,kd,nm,fd,ad,nn,vk,vi,vf,args⟩,n,rfl,hx,hn⟩:=hw);rename WX _ _=>hx0;(refine callF' (h3 _ _ hn (by decide)) rfl (okQ hA) ⟨?_,trivial⟩;intro ws hw;obtain ⟨⟨op,kd,nm,fd,ad,nn,vk,vi,vf,args⟩,n,rfl,hx,hn⟩:=hw;replace hx:=WX_mono (e:=5) (by decide) hx)
       exact finS (x:=.mk _ (.mk _ _ _ _ _ _ _ _ _ [.mk _ _ _ _ _ _ _ _ _ _]) (.mk _ _ _ _ _ _ _ _ _ _) [] [] _ _ _ []) rfl (WS_set (WX_mono (d:=4) (by decide) (WX_1 (by decide) hx0)) (.inr rfl) (by assumption)) hn
      ·(refine callF' (p64i hp hn (by first|decide|omega) (by first|decide|omega)) rfl (okP hA) ⟨?_,trivial⟩;intro ws hw;rcases hw with ⟨v,n,rfl,hv,hn⟩)
       have e6:v=0\/v=1\/v=2\/v=3\/v=4\/v=5:=by omega
       rcases e6 with rfl|rfl|rfl|rfl|rfl|rfl
       all_goals
        refine VOK_lt rfl rfl (VOK_lt rfl rfl (VOK_lt rfl rfl (VOK_call (p82 _) rfl rfl ?_)))
        (refine callF' (h4 _ _ hn (by decide)) rfl (okQ hA) ⟨?_,trivial⟩;intro ws hw;obtain ⟨⟨op,kd,nm,fd,ad,nn,vk,vi,vf,args⟩,n,rfl,hx,hn⟩:=hw;replace hx:=WX_mono (e:=5) (by decide) hx)
        exact finS (x:=.mk _ (.mk _ _ _ _ _ _ _ _ _ []) (.mk _ _ _ _ _ _ _ _ _ _) [] [] _ _ _ []) rfl (WS_set (mk_name (by decide)) (.inl rfl) (by assumption)) hn)
   ·(
     (refine it_b rfl rfl (λh=>?_) (λh=>?_)<;>rw [cmpB]at h)
     ·(refine callF' (h2 _ _ hn (by decide)) rfl (okQ hA) ⟨?_,trivial⟩;intro ws hw;obtain ⟨⟨op,kd,nm,fd,ad,nn,vk,vi,vf,args⟩,n,rfl,hx,hn⟩:=hw;replace hx:=WX_mono (e:=5) (by decide) hx);(refine callF' (h2 _ _ hn (by decide)) rfl (okQ hA) ⟨?_,trivial⟩;intro ws hw;obtain ⟨⟨op,kd,nm,fd,ad,nn,vk,vi,vf,args⟩,n,rfl,hx,hn⟩:=hw;replace hx:=WX_mono (e:=5) (by decide) hx);exact finS (x:=.mk _ (.mk _ _ _ _ _ _ _ _ _ []) (.mk _ _ _ _ _ _ _ _ _ []) [] [] _ _ _ [.mk _ _ _ _ _ _ _ _ _ _,.mk _ _ _ _ _ _ _ _ _ _]) rfl (WS_call (by decide) (by simp) (all2 (by assumption) (by assumption))) hn
     (refine it_b rfl rfl (λh=>?_) (λh=>?_)<;>rw [cmpB]at h)
     ·(refine callF' (h2 _ _ hn (by decide)) rfl (okQ hA) ⟨?_,trivial⟩;intro ws hw;obtain ⟨⟨op,kd,nm,fd,ad,nn,vk,vi,vf,args⟩,n,rfl,hx,hn⟩:=hw;replace hx:=WX_mono (e:=5) (by decide) hx);(refine callF' (h31 _ _ hn (by decide)) rfl (okQ hA) ⟨?_,trivial⟩;intro ws hw;obtain ⟨⟨op,kd,nm,fd,ad,nn,vk,vi,vf,args⟩,n,rfl,hx,hn⟩:=hw;replace hx:=WX_mono (e:=5) (by decide) hx);exact finS (x:=.mk _ (.mk _ _ _ _ _ _ _ _ _ []) (.mk _ _ _ _ _ _ _ _ _ []) [] [] _ _ _ [.mk _ _ _ _ _ _ _ _ _ _,.mk _ _ _ _ _ _ _ _ _ _]) rfl (WS_call (by decide) (by simp) (all2 (by assumption) (by assumption))) hn
     (refine it_b rfl rfl (λh=>?_) (λh=>?_)<;>rw [cmpB]at h)
     ·(refine callF' (h2 _ _ hn (by decide)) rfl (okQ hA) ⟨?_,trivial⟩;intro ws hw;obtain ⟨⟨op,kd,nm,fd,ad,nn,vk,vi,vf,args⟩,n,rfl,hx,hn⟩:=hw;replace hx:=WX_mono (e:=5) (by decide) hx);exact finS (x:=.mk _ (.mk _ _ _ _ _ _ _ _ _ []) (.mk _ _ _ _ _ _ _ _ _ []) [] [] _ _ _ [.mk _ _ _ _ _ _ _ _ _ _]) rfl (WS_call (by decide) (by simp) (all1 (by assumption))) hn
     (refine it_b rfl rfl (λh=>?_) (λh=>?_)<;>rw [cmpB]at h)
     ·(refine callF' (h2 _ _ hn (by first|decide|(simp only [decide_eq_true_eq,decide_eq_false_iff_not]at *; omega))) rfl (okQ hA) ⟨?_,trivial⟩;intro ws hw;obtain ⟨⟨op,kd,nm,fd,ad,nn,vk,vi,vf,args⟩,n,rfl,hx,hn⟩:=hw);rename WX _ _=>hx0;(refine callF' (h3 _ _ hn (by decide)) rfl (okQ hA) ⟨?_,trivial⟩;intro ws hw;obtain ⟨⟨op,kd,nm,fd,ad,nn,vk,vi,vf,args⟩,n,rfl,hx,hn⟩:=hw;replace hx:=WX_mono (e:=5) (by decide) hx)
      exact finS (x:=.mk _ (.mk _ _ _ _ _ _ _ _ _ [.mk _ _ _ _ _ _ _ _ _ _]) (.mk _ _ _ _ _ _ _ _ _ _) [] [] _ _ _ []) rfl (WS_set (WX_mono (d:=4) (by decide) (WX_1 (by decide) hx0)) (.inr rfl) (by assumption)) hn
     ·(refine callF' (p64i hp hn (by first|decide|omega) (by first|decide|omega)) rfl (okP hA) ⟨?_,trivial⟩;intro ws hw;rcases hw with ⟨v,n,rfl,hv,hn⟩)
      have e6:v=0\/v=1\/v=2\/v=3\/v=4\/v=5:=by omega
      rcases e6 with rfl|rfl|rfl|rfl|rfl|rfl
      all_goals
       refine VOK_lt rfl rfl (VOK_lt rfl rfl (VOK_lt rfl rfl (VOK_call (p82 _) rfl rfl ?_)))
       (refine callF' (h4 _ _ hn (by decide)) rfl (okQ hA) ⟨?_,trivial⟩;intro ws hw;obtain ⟨⟨op,kd,nm,fd,ad,nn,vk,vi,vf,args⟩,n,rfl,hx,hn⟩:=hw;replace hx:=WX_mono (e:=5) (by decide) hx)
       exact finS (x:=.mk _ (.mk _ _ _ _ _ _ _ _ _ []) (.mk _ _ _ _ _ _ _ _ _ _) [] [] _ _ _ []) rfl (WS_set (mk_name (by decide)) (.inl rfl) (by assumption)) hn))
theorem p38 {l:List UInt8} {a:AV} (hp:Pk l a) (d:Nat) (hd2:d<=100) (hS:PS l a d):PB l a d:=by
 intro n m hn hm1 hm2
 have hA:=hp.1.ok okC8
 refine cf_tree (c:=c38) (n:=300) (t:=t38) mo ov rfl (λY _=>known0 _) (by kernel_rfl) λY hf hg=>?_
 unfold t38
 (refine callF' (p64i hp hn (by first|decide|omega) (by first|decide|omega)) rfl (okP hA) ⟨?_,trivial⟩;intro ws hw;rcases hw with ⟨v,n,rfl,hv,hn⟩)
 refine VOK_lt (add_c (by omega) (by omega)) rfl ?_
 refine VOK_loop (ι:=Nat×List GS×Nat) (λx=>[.int .i64 (x.1:Int),encB x.2.1,.int .i64 (x.2.2:Int)]) (λx=>x.1+x.2.1.length<=m/\(∀s∈x.2.1,WS (d+1) s)/\x.2.2<=l.length) (λx=>x.1) (v+1,[],n)
  ⟨by simp;omega,λs hs=>(List.not_mem_nil hs).elim,hn⟩ rfl (λx _=>by simp only [okL,okC,okB]) (λx y _ _ h=>by simp at h;omega) (λx hx=>?_)
 obtain ⟨i,ss,n⟩:=x
 obtain ⟨h1,h2,hn⟩:=hx
 simp only at h1 hn h2⊢
 (refine it_b rfl rfl (λh=>?_) (λh=>?_)<;>rw [cmpB]at h)
 ·refine callF' (hS _ hn) rfl (okP hA) ⟨?_,trivial⟩
  rintro ws ⟨⟨op,⟨op1,kd1,nm1,fd1,ad1,nn1,vk1,vi1,vf1,args1⟩,⟨op2,kd2,nm2,fd2,ad2,nn2,vk2,vi2,vf2,args2⟩,thn,els,nm,kd,ad,args⟩,n,rfl,hx,hn⟩
  refine VOK_lt (run_app27 ss (.mk op (.mk op1 kd1 nm1 fd1 ad1 nn1 vk1 vi1 vf1 args1) (.mk op2 kd2 nm2 fd2 ad2 nn2 vk2 vi2 vf2 args2) thn els nm kd ad args) (by omega)) (okB _) ?_
  obtain ⟨i,rfl⟩:∃e,i=e+1:=⟨i-1,by simp at h;omega⟩
  refine VOK_lt (sub_c (z:=(i:Int)) (by omega) (by omega) (by omega)) rfl ?_
  refine VOK_again rfl ⟨(i,ss++[_],n),⟨?_,?_,hn⟩,rfl,by simp⟩
  ·simp;omega
  ·intro s hs
   rcases List.mem_append.1 hs with hs|hs
   ·exact h2 s hs
   ·cases List.mem_singleton.1 hs;exact hx
 ·exact VOK_fin (by show okL [encB ss,.int .i64 (n:Int)]=true;simp only [okL,okC,okB]) ⟨ss,n,rfl,⟨by omega,h2⟩,hn⟩
theorem pS {l:List UInt8} {a:AV} (hp:Pk l a):∀d:Nat,d<=100->PS l a d/\PB l a d
 |0,h=>by
  have h1:=p65 hp 0 h (λe h=>by omega)
  exact ⟨h1,p38 hp 0 h h1⟩
 |d+1,h=>by
  have ih:=pS hp d (by omega)
  have h1:=p65 hp (d+1) h (λe h=>by cases h;exact ih.2)
  exact ⟨h1,p38 hp (d+1) h h1⟩
end Go.Proofs.Ytjconanknjgpnaa.vars
set_option maxRecDepth 100000
set_option linter.unusedVariables false
set_option linter.unusedSimpArgs false
namespace Go.Proofs.Ytjconanknjgpnaa.vars
open Go Go.Sx
def VARS:AV:=.vsl 12 10 [.str [97],.int .i64 1,.int .i64 2,.int .i64 0,.int .i64 2,.int .i64 0,.flt .f64 0,.int .i64 0,.int .i64 0,.flt .f64 0,.str [98],.int .i64 1,.int .i64 1,.int .i64 0,.int .i64 1,.int .i64 0,.flt .f64 0,.int .i64 0,.int .i64 0,.flt .f64 0,.str [111],.int .i64 2,.int .i64 2,.int .i64 0,.int .i64 2,.int .i64 0,.flt .f64 0,.int .i64 2,.int .i64 7,.flt .f64 0,.str [113],.int .i64 2,.int .i64 1,.int .i64 0,.int .i64 1,.int .i64 0,.flt .f64 0,.int .i64 1,.int .i64 1,.flt .f64 0,.str [120],.int .i64 3,.int .i64 2,.int .i64 0,.int .i64 2,.int .i64 5,.flt .f64 0,.int .i64 0,.int .i64 0,.flt .f64 0,.str [121],.int .i64 3,.int .i64 3,.int .i64 0,.int .i64 3,.int .i64 0,.flt .f64 0,.int .i64 0,.int .i64 0,.flt .f64 0,.str [122],.int .i64 3,.int .i64 5,.int .i64 0,.int .i64 5,.int .i64 0,.flt .f64 0,.int .i64 0,.int .i64 0,.flt .f64 0,.str [119],.int .i64 3,.int .i64 4,.int .i64 0,.int .i64 4,.int .i64 0,.flt .f64 0,.int .i64 0,.int .i64 0,.flt .f64 0,.str [107],.int .i64 3,.int .i64 2,.int .i64 4,.int .i64 2,.int .i64 0,.flt .f64 0,.int .i64 0,.int .i64 0,.flt .f64 0,.str [116,109],.int .i64 3,.int .i64 6,.int .i64 0,.int .i64 0,.int .i64 0,.flt .f64 0,.int .i64 0,.int .i64 0,.flt .f64 0,.str [99],.int .i64 3,.int .i64 9,.int .i64 0,.int .i64 0,.int .i64 0,.flt .f64 0,.int .i64 0,.int .i64 0,.flt .f64 0,.str [101],.int .i64 3,.int .i64 11,.int .i64 0,.int .i64 0,.int .i64 0,.flt .f64 0,.int .i64 0,.int .i64 0,.flt .f64 0]
theorem k88_97:Pure Try.prog 88 [VARS,.str [97]] (.tup [.agg [.str [97],.int .i64 1,.int .i64 2,.int .i64 0,.int .i64 2,.int .i64 0,.flt .f64 0,.int .i64 0,.int .i64 0,.flt .f64 0],.int .i64 0,.bool true]):=memo_ok mo ov (n:=3000) (by kernel_rfl)
theorem k88_98:Pure Try.prog 88 [VARS,.str [98]] (.tup [.agg [.str [98],.int .i64 1,.int .i64 1,.int .i64 0,.int .i64 1,.int .i64 0,.flt .f64 0,.int .i64 0,.int .i64 0,.flt .f64 0],.int .i64 1,.bool true]):=memo_ok mo ov (n:=3000) (by kernel_rfl)
theorem k88_111:Pure Try.prog 88 [VARS,.str [111]] (.tup [.agg [.str [111],.int .i64 2,.int .i64 2,.int .i64 0,.int .i64 2,.int .i64 0,.flt .f64 0,.int .i64 2,.int .i64 7,.flt .f64 0],.int .i64 2,.bool true]):=memo_ok mo ov (n:=3000) (by kernel_rfl)
theorem k88_113:Pure Try.prog 88 [VARS,.str [113]] (.tup [.agg [.str [113],.int .i64 2,.int .i64 1,.int .i64 0,.int .i64 1,.int .i64 0,.flt .f64 0,.int .i64 1,.int .i64 1,.flt .f64 0],.int .i64 3,.bool true]):=memo_ok mo ov (n:=3000) (by kernel_rfl)
theorem k88_120:Pure Try.prog 88 [VARS,.str [120]] (.tup [.agg [.str [120],.int .i64 3,.int .i64 2,.int .i64 0,.int .i64 2,.int .i64 5,.flt .f64 0,.int .i64 0,.int .i64 0,.flt .f64 0],.int .i64 4,.bool true]):=memo_ok mo ov (n:=3000) (by kernel_rfl)
theorem k88_121:Pure Try.prog 88 [VARS,.str [121]] (.tup [.agg [.str [121],.int .i64 3,.int .i64 3,.int .i64 0,.int .i64 3,.int .i64 0,.flt .f64 0,.int .i64 0,.int .i64 0,.flt .f64 0],.int .i64 5,.bool true]):=memo_ok mo ov (n:=3000) (by kernel_rfl)
theorem k88_122:Pure Try.prog 88 [VARS,.str [122]] (.tup [.agg [.str [122],.int .i64 3,.int .i64 5,.int .i64 0,.int .i64 5,.int .i64 0,.flt .f64 0,.int .i64 0,.int .i64 0,.flt .f64 0],.int .i64 6,.bool true]):=memo_ok mo ov (n:=3000) (by kernel_rfl)
theorem k88_119:Pure Try.prog 88 [VARS,.str [119]] (.tup [.agg [.str [119],.int .i64 3,.int .i64 4,.int .i64 0,.int .i64 4,.int .i64 0,.flt .f64 0,.int .i64 0,.int .i64 0,.flt .f64 0],.int .i64 7,.bool true]):=memo_ok mo ov (n:=3000) (by kernel_rfl)
theorem k88_107:Pure Try.prog 88 [VARS,.str [107]] (.tup [.agg [.str [107],.int .i64 3,.int .i64 2,.int .i64 4,.int .i64 2,.int .i64 0,.flt .f64 0,.int .i64 0,.int .i64 0,.flt .f64 0],.int .i64 8,.bool true]):=memo_ok mo ov (n:=3000) (by kernel_rfl)
theorem k88_116_109:Pure Try.prog 88 [VARS,.str [116,109]] (.tup [.agg [.str [116,109],.int .i64 3,.int .i64 6,.int .i64 0,.int .i64 0,.int .i64 0,.flt .f64 0,.int .i64 0,.int .i64 0,.flt .f64 0],.int .i64 12,.bool true]):=memo_ok mo ov (n:=3000) (by kernel_rfl)
theorem k88_99:Pure Try.prog 88 [VARS,.str [99]] (.tup [.agg [.str [99],.int .i64 3,.int .i64 9,.int .i64 0,.int .i64 0,.int .i64 0,.flt .f64 0,.int .i64 0,.int .i64 0,.flt .f64 0],.int .i64 16,.bool true]):=memo_ok mo ov (n:=3000) (by kernel_rfl)
theorem k88_101:Pure Try.prog 88 [VARS,.str [101]] (.tup [.agg [.str [101],.int .i64 3,.int .i64 11,.int .i64 0,.int .i64 0,.int .i64 0,.flt .f64 0,.int .i64 0,.int .i64 0,.flt .f64 0],.int .i64 19,.bool true]):=memo_ok mo ov (n:=3000) (by kernel_rfl)
theorem k95_116_109_46_113:Pure Try.prog 95 [VARS,.str [116,109,46,113]] (.tup [.agg [.str [116,109,46,113],.int .i64 12,.int .i64 1,.int .i64 3],.bool true]):=memo_ok mo ov (n:=3000) (by kernel_rfl)
theorem k95_99_46_99_118:Pure Try.prog 95 [VARS,.str [99,46,99,118]] (.tup [.agg [.str [99,46,99,118],.int .i64 17,.int .i64 2,.int .i64 3],.bool true]):=memo_ok mo ov (n:=3000) (by kernel_rfl)
theorem k95_116_109_46_101_116:Pure Try.prog 95 [VARS,.str [116,109,46,101,116]] (.tup [.agg [.str [116,109,46,101,116],.int .i64 13,.int .i64 4,.int .i64 3],.bool true]):=memo_ok mo ov (n:=3000) (by kernel_rfl)
theorem k35:Pure Try.prog 35 [VARS] (.int .i64 0):=memo_ok mo ov (n:=3000) (by kernel_rfl)
theorem k37:Pure Try.prog 37 [] VARS:=memo_ok mo ov (n:=3000) (by kernel_rfl)
theorem k67 (v:Nat) (h:v<50):Pure Try.prog 67 [.int .i64 2,.int .i64 (v:Int)] (.int .i64 (v:Int)):=by
 have:∀v∈List.range 50,Pure Try.prog 67 [.int .i64 2,.int .i64 (v:Int)] (.int .i64 (v:Int)):=by
  simp only [List.range,List.range.loop,List.forall_mem_cons]
  repeat' apply And.intro
  all_goals first|exact (λx hx=>(List.not_mem_nil hx).elim)|exact memo_ok mo ov (n:=3000) (by kernel_rfl)
 exact this v (List.mem_range.2 h)
theorem k46_1:Pure Try.prog 46 [.int .i64 1] (.int .i64 1):=memo_ok mo ov (n:=3000) (by kernel_rfl)
theorem k46_2:Pure Try.prog 46 [.int .i64 2] (.int .i64 1):=memo_ok mo ov (n:=3000) (by kernel_rfl)
theorem k46_3:Pure Try.prog 46 [.int .i64 3] (.int .i64 1):=memo_ok mo ov (n:=3000) (by kernel_rfl)
theorem k46_4:Pure Try.prog 46 [.int .i64 4] (.int .i64 1):=memo_ok mo ov (n:=3000) (by kernel_rfl)
theorem k46_5:Pure Try.prog 46 [.int .i64 5] (.int .i64 1):=memo_ok mo ov (n:=3000) (by kernel_rfl)
theorem k46_6:Pure Try.prog 46 [.int .i64 6] (.int .i64 4):=memo_ok mo ov (n:=3000) (by kernel_rfl)
theorem k46_9:Pure Try.prog 46 [.int .i64 9] (.int .i64 3):=memo_ok mo ov (n:=3000) (by kernel_rfl)
theorem k46_11:Pure Try.prog 46 [.int .i64 11] (.int .i64 2):=memo_ok mo ov (n:=3000) (by kernel_rfl)
def c92:VC:=⟨⟨[],[]⟩,[],[],0,true,[]⟩
def t92:VT:=
 (.ite 64
 (.done (J 0))
 (.done (J 4)))
def c45:VC:=⟨⟨[],[]⟩,[],[],0,true,[]⟩
def t45:VT:=
 (.lt (.bin .eql 3 false true) [64,J 2] 65 none
 (.ite 65
 (.done (.bool true))
 (.lt (.bin .eql 3 false true) [64,J 3] 66 none
 (.ite 66
 (.done (.bool true))
 (.lt (.bin .eql 3 false true) [64,J 4] 67 none
 (.done (67)))))))
def c89:VC:=⟨⟨[],[]⟩,[(67,[none])],[],0,true,[]⟩
def t89:VT:=
 (.lt (.bin .eql 3 false true) [74,J 2] 75 none
 (.ite 75
 (.lt (.bin .eql 3 false true) [64,J 1] 76 none
 (.ite 76
 (.lt (.bin .eql 3 false true) [65,J 3] 77 none
 (.ite 77
 (.call 67 [J 2,71] 78 [none]
 (.done (.agg [64,J 2,66,67,68,69,J 2,78,.flt .f64 0,73])))
 (.done (.agg [64,65,66,67,68,69,70,71,72,73]))))
 (.done (.agg [64,65,66,67,68,69,70,71,72,73]))))
 (.done (.agg [64,65,66,67,68,69,70,71,72,73]))))
def c90:VC:=⟨⟨[],[]⟩,[(88,[(some 10),none,none]),(95,[(some 4),none]),(46,[none]),(92,[none])],[],0,true,[]⟩
def t90:VT:=
 (.call 88 [64,67] 75 [(some 10),none,none]
 (.lt (.un .not) [86] 87 none
 (.ite 87
 (.done (.tup [J 0,65,66,67,68,69,70,71,72,73,74,J 3]))
 (.lt (.bin .eql 9 false true) [68,.str []] 88 none
 (.ite 88
 (.call 46 [77] 89 [none]
 (.lt (.bin .eql 3 false true) [89,J 1] 90 none
 (.ite 90
 (.lt (.bin .eql 3 false true) [78,J 0] 91 none
 (.call 92 [91] 92 [none]
 (.done (.tup [J 0,65,77,67,68,85,70,71,72,73,74,92]))))
 (.call 92 [.bool false] 91 [none]
 (.done (.tup [J 0,65,77,67,68,85,70,71,72,73,74,91]))))))
 (.call 46 [77] 89 [none]
 (.lt (.bin .lss 3 false true) [89,J 2] 90 none
 (.ite 90
 (.done (.tup [J 0,65,66,67,68,69,70,71,72,73,74,J 4]))
 (.lt (.bin .add 9 false true) [67,.str [46]] 91 none
 (.lt (.bin .add 9 false false) [91,68] 92 none
 (.call 95 [64,92] 93 [(some 4),none]
 (.lt (.un .not) [97] 98 none
 (.ite 98
 (.done (.tup [J 0,65,66,67,68,69,70,71,72,73,74,J 3]))
 (.done (.tup [J 0,65,95,67,68,94,70,71,72,73,74,J 0])))))))))))))))
def c91:VC:=⟨⟨[],[]⟩,[(88,[(some 10),none,none]),(92,[none])],[],0,true,[]⟩
def t91:VT:=
 (.call 88 [64,67] 76 [(some 10),none,none]
 (.lt (.un .not) [87] 88 none
 (.ite 88
 (.done (.tup [J 0,65,66,67,68,69,70,71,72,73,74,J 3]))
 (.lt (.bin .gtr 3 false true) [79,J 0] 89 none
 (.ite 89
 (.lt (.iaddr 38) [75,J 0] 90 none
 (.lt (.faddr 40 1) [90] 91 none
 (.lt (.load 3) [91] 92 none
 (.lt (.bin .eql 3 false true) [92,J 2] 93 none
 (.ite 93
 (.call 92 [.bool true] 94 [none]
 (.done (.tup [J 0,65,78,67,68,86,79,71,72,73,75,94])))
 (.lt (.iaddr 38) [75,J 0] 94 none
 (.lt (.faddr 40 1) [94] 95 none
 (.lt (.load 3) [95] 96 none
 (.lt (.bin .eql 3 false true) [96,J 3] 97 none
 (.call 92 [97] 98 [none]
 (.done (.tup [J 0,65,78,67,68,86,79,71,72,73,75,98]))))))))))))
 (.call 92 [.bool false] 90 [none]
 (.done (.tup [J 0,65,78,67,68,86,79,71,72,73,75,90]))))))))
theorem p92 (b:Bool):Pure Try.prog 92 [.bool b] (.int .i64 (if b=true then 0 else 4)):=by
 refine pure_shape (sh:=[none]) (ls:=[.bool b]) (c:=c92) (n:=300) (t:=t92) mo ov rfl rfl rfl (λY _=>known0 _) rfl (by kernel_rfl) λY hf hg=>?_
 unfold t92
 refine VOK_ite rfl (λh=>VOK_done ?_) (λh=>VOK_done ?_)
 ·rw [h];rfl
 ·rw [h];rfl
section
variable {P:Program} {Q:AV->Prop} {L:List (Nat->List AV->Prop)} {Y:Sy} {t:TypeId} {cx cy:Bool} {args:List AV} {n:Nat} {A B:VT} {k:IntKind} {a b:Int}
theorem it_eq (h0:denL Y.v args=[.int k a,.int k b]) (h1:a=b->VOK P Q L (Y.put n (.bool (decide (a=b)))) A) (h2:¬a=b->VOK P Q L (Y.put n (.bool (decide (a=b)))) B):VOK P Q L Y (.lt (.bin .eql t cx cy) args n none (.ite n A B)):=
 VOK_lt (by rw [h0];exact run_eql ..) rfl (VOK_ite (t:=decide (a=b)) (by rw [put_v,if_pos rfl]) (λh=>h1 (of_decide_eq_true h)) (λh=>h2 (of_decide_eq_false h)))
def Cmp:BinOp->Int->Int->Prop
 | .eql,a,b=>a=b
 | .neq,a,b=>¬a=b
 | .lss,a,b=>a<b
 | .gtr,a,b=>b<a
 | .leq,a,b=>a<=b
 | .geq,a,b=>b<=a
 |_,_,_=>False
open Classical in
theorem it_c {op:BinOp} (h0:denL Y.v args=[.int k a,.int k b]) (ho:(match op with| .eql=>true| .neq=>true| .lss=>true| .gtr=>true| .leq=>true| .geq=>true|_=>false)=true)
  (h1:Cmp op a b->VOK P Q L (Y.put n (.bool (decide (Cmp op a b)))) A) (h2:¬Cmp op a b->VOK P Q L (Y.put n (.bool (decide (Cmp op a b)))) B):VOK P Q L Y (.lt (.bin op t cx cy) args n none (.ite n A B)):=by
 have hr:(XOp.bin op t cx cy).run P [.int k a,.int k b]=some (.bool (decide (Cmp op a b))):=by
  cases op<;>simp only at ho<;>first|(cases ho;done)|skip
  ·rw [run_eql];refine congrArg (λx=>some (AV.bool x)) ?_;by_cases h:a=b<;>simp [Cmp,h]
  ·rw [run_neq];refine congrArg (λx=>some (AV.bool x)) ?_;by_cases h:a=b<;>simp [Cmp,h]
  ·rw [run_lss];refine congrArg (λx=>some (AV.bool x)) ?_;by_cases h:a<b<;>simp [Cmp,h]
  ·rw [run_leq];refine congrArg (λx=>some (AV.bool x)) ?_;by_cases h:a<=b<;>simp [Cmp,h]
  ·rw [run_gtr];refine congrArg (λx=>some (AV.bool x)) ?_;by_cases h:b<a<;>simp [Cmp,h]
  ·rw [run_geq];refine congrArg (λx=>some (AV.bool x)) ?_;by_cases h:b<=a<;>simp [Cmp,h]
 exact VOK_lt (by rw [h0];exact hr) rfl (VOK_ite (t:=decide (Cmp op a b)) (by rw [put_v,if_pos rfl]) (λh=>h1 (of_decide_eq_true h)) (λh=>h2 (of_decide_eq_false h)))
end
def cellsL:List (Int×Int):=[(1,1),(3,1),(12,1),(0,2),(4,2),(2,2),(17,2),(5,3),(13,4),(7,4),(6,5)]
def KX (op kd ad n vk vi:Int) (vf:Nat) (ks:List Int):Prop:=
 (op=1->kd=vk/\1<=vk/\vk<=5/\0<=vi/\vi<50/\(vk=1->vi<=1)/\(vk=5->vi=0)/\(vk≠5->vf=0))/\
 (op=2->(ad,kd)∈cellsL)/\
 (op=3->ad=8/\n=4/\kd=2/\∃k,ks=[k]/\(k=2\/k=3))/\
 (4<=op/\op<=14->∃k,ks=[k,k]/\1<=k/\k<=5/\(op<=8->kd=k/\k≠1)/\(9<=op->kd=1)/\(op=8->k≠5)/\(op=11\/op=12->k≠1)/\(13<=op->k=1))/\
 (op=15->kd=1/\ks=[1])/\
 (op=16->ks=[kd]/\2<=kd/\kd<=5)/\
 (op=17->2<=kd/\kd<=5/\∃k,ks=[k]/\2<=k/\k<=5)
def TX:Nat->GX->Prop
 |0,_=>False
 |d+1,.mk op kd nm fd ad n vk vi vf args=>Ari op args.length/\Flt4 vf/\1<=kd/\kd<=5/\KX op kd ad n vk vi vf (args.map GX.kd)/\∀a∈args,TX d a
theorem TX_mono:∀{d e:Nat} {x:GX},d<=e->TX d x->TX e x
 |0,_,_,_,h=>h.elim
 |d+1,0,_,h,_=>by omega
 |d+1,e+1,.mk ..,h,⟨h1,h2,h3,h4,h5,h6⟩=>⟨h1,h2,h3,h4,h5,λa ha=>TX_mono (by omega) (h6 a ha)⟩
theorem TX_kd:∀{d:Nat} {x:GX},TX d x->1<=x.kd/\x.kd<=5
 |0,_,h=>h.elim
 |d+1,.mk ..,h=>⟨h.2.2.1,h.2.2.2.1⟩
theorem okC_noRef_agg {l:List AV} (h:okL l=true):noRef (.agg l)=true:=by simp only [noRef];exact okL_noRef h
theorem p89 {d:Nat} (x:GX) (k:Int) (hx:TX d x):∃y,Pure Try.prog 89 [.agg (encX x),.int .i64 k] (.agg (encX y))/\TX d y:=by
 obtain ⟨op,kd,nm,fd,ad,n,vk,vi,vf,args⟩:=x
 obtain ⟨d,rfl⟩:∃e,d=e+1:=by cases d with|zero=>exact hx.elim|succ d=>exact ⟨d,rfl⟩
 by_cases hc:k=2/\op=1/\kd=3
 ·obtain ⟨rfl,rfl,rfl⟩:=hc
  obtain ⟨h1,h2,h3,h4,h5,h6⟩:=hx
  obtain ⟨q1,q2,q3,q4,q5,q6,q7,q8⟩:=h5.1 rfl
  obtain ⟨v,rfl⟩:∃v:Nat,vi=(v:Int):=⟨vi.toNat,by omega⟩
  refine ⟨.mk 1 2 nm fd ad n 2 v 0 args,?_,h1,.inl rfl,by decide,by decide,⟨λ_=>⟨rfl,by decide,by decide,q4,q5,λh=>by omega,λh=>by omega,λ_=>rfl⟩,λh=>by omega,λh=>by omega,λh=>by omega,λh=>by omega,λh=>by omega,λh=>by omega⟩,h6⟩
  refine pure_shape (sh:=[some 10,none]) (ls:=encX (.mk 1 3 nm fd ad n vk v vf args)++[.int .i64 2]) (c:=c89) (n:=300) (t:=t89) mo ov rfl (okXn _ _) (okC_noRef_agg (okX _)) (λY _=>known0 _) rfl (by kernel_rfl) λY hf hg=>?_
  unfold t89
  (refine it_c rfl rfl (λh=>?_) (λh=>?_)<;>simp only [Cmp,Decidable.not_not,Int.not_lt,Int.not_le]at h<;>try (exfalso;first|exact h trivial|omega));(refine it_c rfl rfl (λh=>?_) (λh=>?_)<;>simp only [Cmp,Decidable.not_not,Int.not_lt,Int.not_le]at h<;>try (exfalso;first|exact h trivial|omega));(refine it_c rfl rfl (λh=>?_) (λh=>?_)<;>simp only [Cmp,Decidable.not_not,Int.not_lt,Int.not_le]at h<;>try (exfalso;first|exact h trivial|omega))
  refine VOK_call (k67 v (by omega)) rfl rfl (VOK_done rfl)
 ·refine ⟨_,?_,hx⟩
  refine pure_shape (sh:=[some 10,none]) (ls:=encX (.mk op kd nm fd ad n vk vi vf args)++[.int .i64 k]) (c:=c89) (n:=300) (t:=t89) mo ov rfl (okXn _ _) (okC_noRef_agg (okX _)) (λY _=>known0 _) rfl (by kernel_rfl) λY hf hg=>?_
  unfold t89
  (refine it_c rfl rfl (λh=>?_) (λh=>?_)<;>simp only [Cmp,Decidable.not_not,Int.not_lt,Int.not_le]at h<;>try (exfalso;first|exact h trivial|omega))
  ·(refine it_c rfl rfl (λh=>?_) (λh=>?_)<;>simp only [Cmp,Decidable.not_not,Int.not_lt,Int.not_le]at h<;>try (exfalso;first|exact h trivial|omega))
   ·(refine it_c rfl rfl (λh=>?_) (λh=>?_)<;>simp only [Cmp,Decidable.not_not,Int.not_lt,Int.not_le]at h<;>try (exfalso;first|exact h trivial|omega))
    exact VOK_done rfl
   ·exact VOK_done rfl
  ·exact VOK_done rfl
def RL (x:GX):Nat->List AV->Prop:=λ_ ws=>∃ad kd:Int,ws=(match x with| .mk op _ nm fd _ n vk vi vf args=>encX (.mk op kd nm fd ad n vk vi vf args))++[.int .i64 0]/\(ad,kd)∈cellsL
theorem p90 (op kd:Int) (nm fd:List UInt8) (ad n vk vi:Int) (vf:Nat) (args:List GX) (h:(nm,fd)∈loads):CF Try.prog 90 ft90 (VARS::encX (.mk op kd nm fd ad n vk vi vf args)) (RL (.mk op kd nm fd ad n vk vi vf args)):=by
 refine cf_tree (c:=c90) (n:=300) (t:=t90) mo ov rfl (λY _=>known0 _) (by kernel_rfl) λY hf hg=>?_
 unfold t90
 simp only [loads,List.mem_cons,Prod.mk.injEq,List.not_mem_nil,or_false]at h
 rcases h with ⟨rfl,rfl⟩|⟨rfl,rfl⟩|⟨rfl,rfl⟩|⟨rfl,rfl⟩|⟨rfl,rfl⟩|⟨rfl,rfl⟩|⟨rfl,rfl⟩|⟨rfl,rfl⟩|⟨rfl,rfl⟩|⟨rfl,rfl⟩|⟨rfl,rfl⟩
 ·(
   refine VOK_call k88_98 rfl rfl (VOK_lt rfl rfl (VOK_ite rfl (λh=>by cases h) (λ_=>VOK_lt rfl rfl (VOK_ite rfl (λ_=>?_) (λh=>by cases h)))))
   refine VOK_call k46_1 rfl rfl (VOK_lt rfl rfl (VOK_ite rfl (λ_=>VOK_lt rfl rfl (VOK_call (p92 true) rfl rfl (VOK_fin ?_ ⟨1,1,rfl,by decide⟩))) (λh=>by cases h)))
   exact okXn (.mk _ _ _ _ _ _ _ _ _ args) _)
 ·(
   refine VOK_call k88_113 rfl rfl (VOK_lt rfl rfl (VOK_ite rfl (λh=>by cases h) (λ_=>VOK_lt rfl rfl (VOK_ite rfl (λ_=>?_) (λh=>by cases h)))))
   refine VOK_call k46_1 rfl rfl (VOK_lt rfl rfl (VOK_ite rfl (λ_=>VOK_lt rfl rfl (VOK_call (p92 true) rfl rfl (VOK_fin ?_ ⟨3,1,rfl,by decide⟩))) (λh=>by cases h)))
   exact okXn (.mk _ _ _ _ _ _ _ _ _ args) _)
 ·(
   refine VOK_call k88_116_109 rfl rfl (VOK_lt rfl rfl (VOK_ite rfl (λh=>by cases h) (λ_=>VOK_lt rfl rfl (VOK_ite rfl (λh=>by cases h) (λ_=>?_)))))
   refine VOK_call k46_6 rfl rfl (VOK_lt rfl rfl (VOK_ite rfl (λh=>by cases h) (λ_=>VOK_lt rfl rfl (VOK_lt rfl rfl (VOK_call k95_116_109_46_113 rfl rfl (VOK_lt rfl rfl (VOK_ite rfl (λh=>by cases h) (λ_=>VOK_fin ?_ ⟨12,1,rfl,by decide⟩))))))))
   exact okXn (.mk _ _ _ _ _ _ _ _ _ args) _)
 ·(
   refine VOK_call k88_97 rfl rfl (VOK_lt rfl rfl (VOK_ite rfl (λh=>by cases h) (λ_=>VOK_lt rfl rfl (VOK_ite rfl (λ_=>?_) (λh=>by cases h)))))
   refine VOK_call k46_2 rfl rfl (VOK_lt rfl rfl (VOK_ite rfl (λ_=>VOK_lt rfl rfl (VOK_call (p92 true) rfl rfl (VOK_fin ?_ ⟨0,2,rfl,by decide⟩))) (λh=>by cases h)))
   exact okXn (.mk _ _ _ _ _ _ _ _ _ args) _)
 ·(
   refine VOK_call k88_120 rfl rfl (VOK_lt rfl rfl (VOK_ite rfl (λh=>by cases h) (λ_=>VOK_lt rfl rfl (VOK_ite rfl (λ_=>?_) (λh=>by cases h)))))
   refine VOK_call k46_2 rfl rfl (VOK_lt rfl rfl (VOK_ite rfl (λ_=>VOK_lt rfl rfl (VOK_call (p92 true) rfl rfl (VOK_fin ?_ ⟨4,2,rfl,by decide⟩))) (λh=>by cases h)))
   exact okXn (.mk _ _ _ _ _ _ _ _ _ args) _)
 ·(
   refine VOK_call k88_111 rfl rfl (VOK_lt rfl rfl (VOK_ite rfl (λh=>by cases h) (λ_=>VOK_lt rfl rfl (VOK_ite rfl (λ_=>?_) (λh=>by cases h)))))
   refine VOK_call k46_2 rfl rfl (VOK_lt rfl rfl (VOK_ite rfl (λ_=>VOK_lt rfl rfl (VOK_call (p92 true) rfl rfl (VOK_fin ?_ ⟨2,2,rfl,by decide⟩))) (λh=>by cases h)))
   exact okXn (.mk _ _ _ _ _ _ _ _ _ args) _)
 ·(
   refine VOK_call k88_99 rfl rfl (VOK_lt rfl rfl (VOK_ite rfl (λh=>by cases h) (λ_=>VOK_lt rfl rfl (VOK_ite rfl (λh=>by cases h) (λ_=>?_)))))
   refine VOK_call k46_9 rfl rfl (VOK_lt rfl rfl (VOK_ite rfl (λh=>by cases h) (λ_=>VOK_lt rfl rfl (VOK_lt rfl rfl (VOK_call k95_99_46_99_118 rfl rfl (VOK_lt rfl rfl (VOK_ite rfl (λh=>by cases h) (λ_=>VOK_fin ?_ ⟨17,2,rfl,by decide⟩))))))))
   exact okXn (.mk _ _ _ _ _ _ _ _ _ args) _)
 ·(
   refine VOK_call k88_121 rfl rfl (VOK_lt rfl rfl (VOK_ite rfl (λh=>by cases h) (λ_=>VOK_lt rfl rfl (VOK_ite rfl (λ_=>?_) (λh=>by cases h)))))
   refine VOK_call k46_3 rfl rfl (VOK_lt rfl rfl (VOK_ite rfl (λ_=>VOK_lt rfl rfl (VOK_call (p92 true) rfl rfl (VOK_fin ?_ ⟨5,3,rfl,by decide⟩))) (λh=>by cases h)))
   exact okXn (.mk _ _ _ _ _ _ _ _ _ args) _)
 ·(
   refine VOK_call k88_116_109 rfl rfl (VOK_lt rfl rfl (VOK_ite rfl (λh=>by cases h) (λ_=>VOK_lt rfl rfl (VOK_ite rfl (λh=>by cases h) (λ_=>?_)))))
   refine VOK_call k46_6 rfl rfl (VOK_lt rfl rfl (VOK_ite rfl (λh=>by cases h) (λ_=>VOK_lt rfl rfl (VOK_lt rfl rfl (VOK_call k95_116_109_46_101_116 rfl rfl (VOK_lt rfl rfl (VOK_ite rfl (λh=>by cases h) (λ_=>VOK_fin ?_ ⟨13,4,rfl,by decide⟩))))))))
   exact okXn (.mk _ _ _ _ _ _ _ _ _ args) _)
 ·(
   refine VOK_call k88_119 rfl rfl (VOK_lt rfl rfl (VOK_ite rfl (λh=>by cases h) (λ_=>VOK_lt rfl rfl (VOK_ite rfl (λ_=>?_) (λh=>by cases h)))))
   refine VOK_call k46_4 rfl rfl (VOK_lt rfl rfl (VOK_ite rfl (λ_=>VOK_lt rfl rfl (VOK_call (p92 true) rfl rfl (VOK_fin ?_ ⟨7,4,rfl,by decide⟩))) (λh=>by cases h)))
   exact okXn (.mk _ _ _ _ _ _ _ _ _ args) _)
 ·(
   refine VOK_call k88_122 rfl rfl (VOK_lt rfl rfl (VOK_ite rfl (λh=>by cases h) (λ_=>VOK_lt rfl rfl (VOK_ite rfl (λ_=>?_) (λh=>by cases h)))))
   refine VOK_call k46_5 rfl rfl (VOK_lt rfl rfl (VOK_ite rfl (λ_=>VOK_lt rfl rfl (VOK_call (p92 true) rfl rfl (VOK_fin ?_ ⟨6,5,rfl,by decide⟩))) (λh=>by cases h)))
   exact okXn (.mk _ _ _ _ _ _ _ _ _ args) _)
end Go.Proofs.Ytjconanknjgpnaa.vars
set_option linter.unusedVariables false
set_option linter.unusedSimpArgs false
namespace Go.Sx
section
variable {P:Program} {t:TypeId} {ti:TypeInfo} {α:Type} {enc:α->List AV} {w:Nat}
theorem setAt_app:∀(a xs b c:List AV),b.length=xs.length->setAt a.length xs (a++(b++c))=some (a++(xs++c))
 |[],[],[],c,_=>by cases c<;>rfl
 |[],x::xs,y::b,c,h=>by
  have ih:=setAt_app [] xs b c (by simpa using h)
  simp only [List.nil_append,List.length_nil,List.cons_append]at ih⊢
  simp only [setAt,ih]
 |[],x::xs,[],c,h=>by simp at h
 |[],[],y::b,c,h=>by simp at h
 |x::a,xs,b,c,h=>by
  simp only [List.cons_append,List.length_cons,setAt,setAt_app a xs b c h]
theorem cut_at (hw:∀a,(enc a).length=w) (l:List α) {i:Nat} (hi:i<l.length):∃a b,encL enc l=a++(enc l[i]++b)/\a.length=i*w/\∀x,encL enc (l.set i x)=a++(enc x++b):=by
 refine ⟨encL enc (l.take i),encL enc (l.drop (i+1)),?_,?_,λx=>?_⟩
 ·have h1:l=l.take i++l[i]::l.drop (i+1):=by rw [List.getElem_cons_drop,List.take_append_drop]
  have h2:=congrArg (encL enc) h1
  rw [encL_append]at h2
  exact h2
 ·rw [encL_length hw,List.length_take];congr 1;omega
 ·rw [List.set_eq_take_append_cons_drop,if_pos hi,encL_append];rfl
theorem run_stx (hw:∀a,(enc a).length=w) {l:List α} {i:Nat} (hi:i<l.length) {off:Nat} {v:AV} {xs p q r:List AV} {y:α} (hc:v.cells=xs) (ho:v=.agg xs\/(∃k n,v=.int k n)) (hinf:P.info? t=some ti) (hs:ti.size=xs.length) (h1:allOne xs=true)
  (he:enc l[i]=p++(q++r)) (hp:p.length=off) (hq:q.length=xs.length) (hy:enc y=p++(xs++r)) (k:IntKind):(XOp.stx t w off).run P [sliceOf enc w l,.int k (i:Int),v]=some (sliceOf enc w (l.set i y)):=by
 obtain ⟨a,b,e1,e2,e3⟩:=cut_at hw l hi
 obtain ⟨x0,l',rfl⟩:∃x l',l=x::l':=by cases l with|nil=>simp at hi|cons x l'=>exact ⟨x,l',rfl⟩
 have hset:∃z l'',(x0::l').set i y=z::l''/\l''.length=l'.length:=by
  cases i with
  |zero=>exact ⟨y,l',rfl,rfl⟩
  |succ i=>exact ⟨x0,l'.set i y,rfl,by simp⟩
 obtain ⟨z,l'',e4,e5⟩:=hset
 have hst:evStore P (row0 (encL enc (x0::l'))) t (.ptr 0 (i*w+off)) v=some (.tup [],(row0 (encL enc (x0::l'))).set 0 (.cells (encL enc ((x0::l').set i y)))):=by
  have hg:(row0 (encL enc (x0::l'))).get 0=some (.cells (encL enc (x0::l'))):=rfl
  have hsa:setAt (i*w+off) xs (encL enc (x0::l'))=some (encL enc ((x0::l').set i y)):=by
   have:=setAt_app (a++p) xs q (r++b) hq
   rw [List.length_append,e2,hp]at this
   rw [e1,he,e3,hy]
   simpa [List.append_assoc]using this
  have hb:Nat.beq xs.length ti.size=true:=by rw [hs];exact Nat.beq_refl _
  rcases ho with rfl|⟨k',n,rfl⟩
  ·simp only [evStore,hinf]
   have hc':(AV.agg xs).cells=xs:=hc
   simp only [hc',hb,h1,hg,hsa]
  ·simp only [evStore,hinf]
   simp only [hc,hb,h1,hg,hsa]
 show (match evStore P (row0 (encL enc (x0::l'))) t (.ptr 0 (Nat.add (Nat.mul i w) off)) v with
  |some r=>match r.2.get 0 with
   |some (.cells cs')=>some (AV.vsl (l'.length+1) w cs')
   |_=>none
  |none=>none)=_
 have e6:Nat.add (Nat.mul i w) off=i*w+off:=rfl
 rw [e6,hst]
 have hg2:∀c:List AV,((row0 (encL enc (x0::l'))).set 0 (.cells c)).get 0=some (.cells c):=λc=>rfl
 simp only [hg2]
 rw [e4]
 show _=some (AV.vsl (l''.length+1) w (encL enc (z::l'')))
 rw [e5]
theorem run_inb {l:List α} {i:Nat} (hi:i<l.length) (k:IntKind):(XOp.inb).run P [sliceOf enc w l,.int k (i:Int)]=some (.int .i64 (i:Int)):=by
 cases l with
 |nil=>simp at hi
 |cons x r=>
  show (match Sx.idx (i:Int) (r.length+1)with|some n=>some (AV.int .i64 (.ofNat n))|none=>none)=_
  have hb:Nat.blt i (r.length+1)=true:=by simpa [Nat.blt_eq]using hi
  have:Sx.idx (i:Int) (r.length+1)=some i:=by
   show (match Nat.blt i (r.length+1)with|true=>some i|false=>none)=some i
   rw [hb]
  rw [this];rfl
end
theorem allOne_ok:∀{l:List AV},okL l=true->allOne l=true
 |[],_=>rfl
 |a::r,h=>by
  rw [okL_cons]at h
  obtain ⟨h1,h2⟩:=and_split h
  have:a.one=true:=by cases a<;>first|rfl|(simp [okC]at h1)
  simp only [allOne,this,allOne_ok h2]
end Go.Sx
set_option maxRecDepth 100000
set_option linter.unusedVariables false
set_option linter.unusedSimpArgs false
namespace Go.Proofs.Ytjconanknjgpnaa.vars
open Go Go.Sx
def c80:VC:=⟨⟨[],[]⟩,[(88,[(some 10),none,none]),(89,[(some 10)]),(92,[none]),(45,[none])],[(1,[⟨[(4,.ptr 1 0),(3,.ptr 0 0),(9,.slx 2 10 0),(10,.slx 1 0 0),(0,64)],[(1,[J 0,J 0,.str [],.str [],J 0,J 0,J 0,J 0,.flt .f64 0,.nsl]),(0,[65,66,67,68,69,70,71,72,73,74])],3,2,[⟨2,10,0,9,none⟩],[],[]⟩])],0,true,[(80,ft80),(90,ft90),(91,ft91)]⟩
def t80:VT:=
 (.lt (.bin .eql 3 false true) [65,J 1] 75 none
 (.ite 75
 (.done (.tup [J 0,65,71,67,68,69,70,71,72,73,74,J 0]))
 (.lt (.bin .eql 3 false true) [65,J 2] 76 none
 (.ite 76
 (.callF 90 ft90 [64,65,66,67,68,69,70,71,72,73,74] 77
 (.cons 11
 (.done (.tup [J 0,88,89,90,91,92,93,94,95,96,97,98]))
 .nil))
 (.lt (.bin .eql 3 false true) [65,J 3] 77 none
 (.ite 77
 (.call 88 [64,67] 78 [(some 10),none,none]
 (.lt (.un .not) [89] 90 none
 (.ite 90
 (.done (.tup [J 0,65,66,67,68,69,70,71,72,73,74,J 3]))
 (.lt (.bin .eql 3 false true) [81,J 0] 91 none
 (.ite 91
 (.done (.tup [J 0,65,66,67,68,69,70,71,72,73,74,J 4]))
 (.loop 92 0 [.nsl,J 0]
 (.cons 2
 (.lt (.len 38) [74] 94 none
 (.lt (.bin .lss 3 false false) [93,94] 95 none
 (.ite 95
 (.lt (.iaddr 38) [74,93] 96 none
 (.lt (.load 40) [96] 97 (some 10)
 (.callF 80 ft80 [64,97,98,99,100,101,102,103,104,105,106] 107
 (.cons 11
 (.lt (.bin .neq 31 false true) [128,J 0] 129 none
 (.ite 129
 (.done (.tup [J 0,65,66,67,68,69,70,71,72,73,74,128]))
 (.lt (.app 10 112) [92,.agg [118,119,120,121,122,123,124,125,126,127]] 130 none
 (.lt (.bin .add 3 false true) [93,J 1] 131 none
 (.again 0 0 [130,131])))))
 .nil))))
 (.lt (.bin .eql 3 false true) [65,J 3] 96 none
 (.ite 96
 (.callF 91 ft91 [64,65,66,67,68,69,70,71,72,73,74,92] 97
 (.cons 11
 (.done (.tup [J 0,109,110,111,112,113,114,115,116,117,118,119]))
 .nil))
 (.lt .inb [92,J 0] 97 none
 (.lt (.ldx 3 10 1) [92,97] 98 none
 (.lt (.bin .eql 3 false true) [65,J 17] 99 none
 (.ite 99
 (.lt (.bin .eql 3 false true) [98,J 1] 100 none
 (.ite 100
 (.done (.tup [J 0,65,66,67,68,69,70,71,72,73,74,J 4]))
 (.lt (.bin .eql 3 false true) [66,J 1] 101 none
 (.ite 101
 (.done (.tup [J 0,65,66,67,68,69,70,71,72,73,74,J 4]))
 (.done (.tup [J 0,65,66,67,68,69,70,71,72,73,92,J 0]))))))
 (.lt (.bin .eql 3 false true) [65,J 15] 100 none
 (.ite 100
 (.lt (.bin .eql 3 false true) [98,J 1] 101 none
 (.call 92 [101] 102 [none]
 (.done (.tup [J 0,65,J 1,67,68,69,70,71,72,73,92,102]))))
 (.lt (.bin .eql 3 false true) [65,J 16] 101 none
 (.ite 101
 (.lt (.bin .neq 3 false true) [98,J 1] 102 none
 (.call 92 [102] 103 [none]
 (.done (.tup [J 0,65,98,67,68,69,70,71,72,73,92,103]))))
 (.lt (.bin .geq 3 false true) [65,J 4] 102 none
 (.ite 102
 (.lt (.bin .leq 3 false true) [65,J 12] 103 none
 (.ite 103
 (.lt .inb [92,J 0] 104 none
 (.lt (.ldx 40 10 0) [92,104] 105 (some 10)
 (.lt .inb [92,J 1] 115 none
 (.lt (.ldx 3 10 1) [92,115] 116 none
 (.call 89 [.agg [105,106,107,108,109,110,111,112,113,114],116] 117 [(some 10)]
 (.lt .inb [92,J 1] 127 none
 (.lt (.ldx 40 10 0) [92,127] 128 (some 10)
 (.lt .inb [92,J 0] 138 none
 (.lt (.ldx 3 10 1) [92,138] 139 none
 (.call 89 [.agg [128,129,130,131,132,133,134,135,136,137],139] 140 [(some 10)]
 (.lt .inb [92,J 0] 150 none
 (.lt (.stx 40 10 0) [92,150,.agg [117,118,119,120,121,122,123,124,125,126]] 151 none
 (.lt .inb [92,J 1] 152 none
 (.lt (.stx 40 10 0) [151,152,.agg [140,141,142,143,144,145,146,147,148,149]] 153 none
 (.lt .inb [92,J 0] 154 none
 (.lt (.ldx 3 10 1) [153,154] 155 none
 (.lt .inb [92,J 1] 156 none
 (.lt (.ldx 3 10 1) [153,156] 157 none
 (.lt (.bin .eql 3 false false) [155,157] 158 none
 (.lt (.bin .eql 3 false true) [65,J 4] 159 none
 (.ite 159
 (.ite 158
 (.lt (.bin .neq 3 false true) [155,J 1] 160 none
 (.call 92 [160] 161 [none]
 (.chk (.same 92 153)
 (.done (.tup [J 0,65,155,67,68,69,70,71,72,73,153,161])))))
 (.call 92 [.bool false] 160 [none]
 (.chk (.same 92 153)
 (.done (.tup [J 0,65,155,67,68,69,70,71,72,73,153,160])))))
 (.lt (.bin .eql 3 false true) [65,J 5] 160 none
 (.ite 160
 (.ite 158
 (.lt (.bin .neq 3 false true) [155,J 1] 161 none
 (.call 92 [161] 162 [none]
 (.chk (.same 92 153)
 (.done (.tup [J 0,65,155,67,68,69,70,71,72,73,153,162])))))
 (.call 92 [.bool false] 161 [none]
 (.chk (.same 92 153)
 (.done (.tup [J 0,65,155,67,68,69,70,71,72,73,153,161])))))
 (.lt (.bin .eql 3 false true) [65,J 6] 161 none
 (.ite 161
 (.ite 158
 (.lt (.bin .neq 3 false true) [155,J 1] 162 none
 (.call 92 [162] 163 [none]
 (.chk (.same 92 153)
 (.done (.tup [J 0,65,155,67,68,69,70,71,72,73,153,163])))))
 (.call 92 [.bool false] 162 [none]
 (.chk (.same 92 153)
 (.done (.tup [J 0,65,155,67,68,69,70,71,72,73,153,162])))))
 (.lt (.bin .eql 3 false true) [65,J 7] 162 none
 (.ite 162
 (.ite 158
 (.lt (.bin .neq 3 false true) [155,J 1] 163 none
 (.call 92 [163] 164 [none]
 (.chk (.same 92 153)
 (.done (.tup [J 0,65,155,67,68,69,70,71,72,73,153,164])))))
 (.call 92 [.bool false] 163 [none]
 (.chk (.same 92 153)
 (.done (.tup [J 0,65,155,67,68,69,70,71,72,73,153,163])))))
 (.lt (.bin .eql 3 false true) [65,J 8] 163 none
 (.ite 163
 (.ite 158
 (.call 45 [155] 164 [none]
 (.call 92 [164] 165 [none]
 (.chk (.same 92 153)
 (.done (.tup [J 0,65,155,67,68,69,70,71,72,73,153,165])))))
 (.call 92 [.bool false] 164 [none]
 (.chk (.same 92 153)
 (.done (.tup [J 0,65,155,67,68,69,70,71,72,73,153,164])))))
 (.lt (.bin .eql 3 false true) [65,J 9] 164 none
 (.ite 164
 (.call 92 [158] 165 [none]
 (.chk (.same 92 153)
 (.done (.tup [J 0,65,J 1,67,68,69,70,71,72,73,153,165]))))
 (.lt (.bin .eql 3 false true) [65,J 10] 165 none
 (.ite 165
 (.call 92 [158] 166 [none]
 (.chk (.same 92 153)
 (.done (.tup [J 0,65,J 1,67,68,69,70,71,72,73,153,166]))))
 (.lt (.bin .eql 3 false true) [65,J 11] 166 none
 (.ite 166
 (.ite 158
 (.lt (.bin .neq 3 false true) [155,J 1] 167 none
 (.call 92 [167] 168 [none]
 (.chk (.same 92 153)
 (.done (.tup [J 0,65,J 1,67,68,69,70,71,72,73,153,168])))))
 (.call 92 [.bool false] 167 [none]
 (.chk (.same 92 153)
 (.done (.tup [J 0,65,J 1,67,68,69,70,71,72,73,153,167])))))
 (.lt (.bin .eql 3 false true) [65,J 12] 167 none
 (.ite 167
 (.ite 158
 (.lt (.bin .neq 3 false true) [155,J 1] 168 none
 (.call 92 [168] 169 [none]
 (.chk (.same 92 153)
 (.done (.tup [J 0,65,J 1,67,68,69,70,71,72,73,153,169])))))
 (.call 92 [.bool false] 168 [none]
 (.chk (.same 92 153)
 (.done (.tup [J 0,65,J 1,67,68,69,70,71,72,73,153,168])))))
 (.ite 158
 (.lt (.bin .eql 3 false true) [155,J 1] 168 none
 (.call 92 [168] 169 [none]
 (.chk (.same 92 153)
 (.done (.tup [J 0,65,J 1,67,68,69,70,71,72,73,153,169])))))
 (.call 92 [.bool false] 168 [none]
 (.chk (.same 92 153)
 (.done (.tup [J 0,65,J 1,67,68,69,70,71,72,73,153,168]))))))))))))))))))))))))))))))))))))))))))
 (.lt .inb [92,J 1] 104 none
 (.lt (.ldx 3 10 1) [92,104] 105 none
 (.lt (.bin .eql 3 false false) [98,105] 106 none
 (.lt (.bin .eql 3 false true) [65,J 4] 107 none
 (.ite 107
 (.ite 106
 (.lt (.bin .neq 3 false true) [98,J 1] 108 none
 (.call 92 [108] 109 [none]
 (.done (.tup [J 0,65,98,67,68,69,70,71,72,73,92,109]))))
 (.call 92 [.bool false] 108 [none]
 (.done (.tup [J 0,65,98,67,68,69,70,71,72,73,92,108]))))
 (.lt (.bin .eql 3 false true) [65,J 5] 108 none
 (.ite 108
 (.ite 106
 (.lt (.bin .neq 3 false true) [98,J 1] 109 none
 (.call 92 [109] 110 [none]
 (.done (.tup [J 0,65,98,67,68,69,70,71,72,73,92,110]))))
 (.call 92 [.bool false] 109 [none]
 (.done (.tup [J 0,65,98,67,68,69,70,71,72,73,92,109]))))
 (.lt (.bin .eql 3 false true) [65,J 6] 109 none
 (.ite 109
 (.ite 106
 (.lt (.bin .neq 3 false true) [98,J 1] 110 none
 (.call 92 [110] 111 [none]
 (.done (.tup [J 0,65,98,67,68,69,70,71,72,73,92,111]))))
 (.call 92 [.bool false] 110 [none]
 (.done (.tup [J 0,65,98,67,68,69,70,71,72,73,92,110]))))
 (.lt (.bin .eql 3 false true) [65,J 7] 110 none
 (.ite 110
 (.ite 106
 (.lt (.bin .neq 3 false true) [98,J 1] 111 none
 (.call 92 [111] 112 [none]
 (.done (.tup [J 0,65,98,67,68,69,70,71,72,73,92,112]))))
 (.call 92 [.bool false] 111 [none]
 (.done (.tup [J 0,65,98,67,68,69,70,71,72,73,92,111]))))
 (.lt (.bin .eql 3 false true) [65,J 8] 111 none
 (.ite 111
 (.ite 106
 (.call 45 [98] 112 [none]
 (.call 92 [112] 113 [none]
 (.done (.tup [J 0,65,98,67,68,69,70,71,72,73,92,113]))))
 (.call 92 [.bool false] 112 [none]
 (.done (.tup [J 0,65,98,67,68,69,70,71,72,73,92,112]))))
 (.lt (.bin .eql 3 false true) [65,J 9] 112 none
 (.ite 112
 (.call 92 [106] 113 [none]
 (.done (.tup [J 0,65,J 1,67,68,69,70,71,72,73,92,113])))
 (.lt (.bin .eql 3 false true) [65,J 10] 113 none
 (.ite 113
 (.call 92 [106] 114 [none]
 (.done (.tup [J 0,65,J 1,67,68,69,70,71,72,73,92,114])))
 (.lt (.bin .eql 3 false true) [65,J 11] 114 none
 (.ite 114
 (.ite 106
 (.lt (.bin .neq 3 false true) [98,J 1] 115 none
 (.call 92 [115] 116 [none]
 (.done (.tup [J 0,65,J 1,67,68,69,70,71,72,73,92,116]))))
 (.call 92 [.bool false] 115 [none]
 (.done (.tup [J 0,65,J 1,67,68,69,70,71,72,73,92,115]))))
 (.lt (.bin .eql 3 false true) [65,J 12] 115 none
 (.ite 115
 (.ite 106
 (.lt (.bin .neq 3 false true) [98,J 1] 116 none
 (.call 92 [116] 117 [none]
 (.done (.tup [J 0,65,J 1,67,68,69,70,71,72,73,92,117]))))
 (.call 92 [.bool false] 116 [none]
 (.done (.tup [J 0,65,J 1,67,68,69,70,71,72,73,92,116]))))
 (.ite 106
 (.lt (.bin .eql 3 false true) [98,J 1] 116 none
 (.call 92 [116] 117 [none]
 (.done (.tup [J 0,65,J 1,67,68,69,70,71,72,73,92,117]))))
 (.call 92 [.bool false] 116 [none]
 (.done (.tup [J 0,65,J 1,67,68,69,70,71,72,73,92,116])))))))))))))))))))))))))))
 (.lt .inb [92,J 1] 103 none
 (.lt (.ldx 3 10 1) [92,103] 104 none
 (.lt (.bin .eql 3 false false) [98,104] 105 none
 (.lt (.bin .eql 3 false true) [65,J 4] 106 none
 (.ite 106
 (.ite 105
 (.lt (.bin .neq 3 false true) [98,J 1] 107 none
 (.call 92 [107] 108 [none]
 (.done (.tup [J 0,65,98,67,68,69,70,71,72,73,92,108]))))
 (.call 92 [.bool false] 107 [none]
 (.done (.tup [J 0,65,98,67,68,69,70,71,72,73,92,107]))))
 (.lt (.bin .eql 3 false true) [65,J 5] 107 none
 (.ite 107
 (.ite 105
 (.lt (.bin .neq 3 false true) [98,J 1] 108 none
 (.call 92 [108] 109 [none]
 (.done (.tup [J 0,65,98,67,68,69,70,71,72,73,92,109]))))
 (.call 92 [.bool false] 108 [none]
 (.done (.tup [J 0,65,98,67,68,69,70,71,72,73,92,108]))))
 (.lt (.bin .eql 3 false true) [65,J 6] 108 none
 (.ite 108
 (.ite 105
 (.lt (.bin .neq 3 false true) [98,J 1] 109 none
 (.call 92 [109] 110 [none]
 (.done (.tup [J 0,65,98,67,68,69,70,71,72,73,92,110]))))
 (.call 92 [.bool false] 109 [none]
 (.done (.tup [J 0,65,98,67,68,69,70,71,72,73,92,109]))))
 (.lt (.bin .eql 3 false true) [65,J 7] 109 none
 (.ite 109
 (.ite 105
 (.lt (.bin .neq 3 false true) [98,J 1] 110 none
 (.call 92 [110] 111 [none]
 (.done (.tup [J 0,65,98,67,68,69,70,71,72,73,92,111]))))
 (.call 92 [.bool false] 110 [none]
 (.done (.tup [J 0,65,98,67,68,69,70,71,72,73,92,110]))))
 (.lt (.bin .eql 3 false true) [65,J 8] 110 none
 (.ite 110
 (.ite 105
 (.call 45 [98] 111 [none]
 (.call 92 [111] 112 [none]
 (.done (.tup [J 0,65,98,67,68,69,70,71,72,73,92,112]))))
 (.call 92 [.bool false] 111 [none]
 (.done (.tup [J 0,65,98,67,68,69,70,71,72,73,92,111]))))
 (.lt (.bin .eql 3 false true) [65,J 9] 111 none
 (.ite 111
 (.call 92 [105] 112 [none]
 (.done (.tup [J 0,65,J 1,67,68,69,70,71,72,73,92,112])))
 (.lt (.bin .eql 3 false true) [65,J 10] 112 none
 (.ite 112
 (.call 92 [105] 113 [none]
 (.done (.tup [J 0,65,J 1,67,68,69,70,71,72,73,92,113])))
 (.lt (.bin .eql 3 false true) [65,J 11] 113 none
 (.ite 113
 (.ite 105
 (.lt (.bin .neq 3 false true) [98,J 1] 114 none
 (.call 92 [114] 115 [none]
 (.done (.tup [J 0,65,J 1,67,68,69,70,71,72,73,92,115]))))
 (.call 92 [.bool false] 114 [none]
 (.done (.tup [J 0,65,J 1,67,68,69,70,71,72,73,92,114]))))
 (.lt (.bin .eql 3 false true) [65,J 12] 114 none
 (.ite 114
 (.ite 105
 (.lt (.bin .neq 3 false true) [98,J 1] 115 none
 (.call 92 [115] 116 [none]
 (.done (.tup [J 0,65,J 1,67,68,69,70,71,72,73,92,116]))))
 (.call 92 [.bool false] 115 [none]
 (.done (.tup [J 0,65,J 1,67,68,69,70,71,72,73,92,115]))))
 (.ite 105
 (.lt (.bin .eql 3 false true) [98,J 1] 115 none
 (.call 92 [115] 116 [none]
 (.done (.tup [J 0,65,J 1,67,68,69,70,71,72,73,92,116]))))
 (.call 92 [.bool false] 115 [none]
 (.done (.tup [J 0,65,J 1,67,68,69,70,71,72,73,92,115]))))))))))))))))))))))))))))))))))))))))
 .nil)))))))
 (.loop 78 0 [.nsl,J 0]
 (.cons 2
 (.lt (.len 38) [74] 80 none
 (.lt (.bin .lss 3 false false) [79,80] 81 none
 (.ite 81
 (.lt (.iaddr 38) [74,79] 82 none
 (.lt (.load 40) [82] 83 (some 10)
 (.callF 80 ft80 [64,83,84,85,86,87,88,89,90,91,92] 93
 (.cons 11
 (.lt (.bin .neq 31 false true) [114,J 0] 115 none
 (.ite 115
 (.done (.tup [J 0,65,66,67,68,69,70,71,72,73,74,114]))
 (.lt (.app 10 112) [78,.agg [104,105,106,107,108,109,110,111,112,113]] 116 none
 (.lt (.bin .add 3 false true) [79,J 1] 117 none
 (.again 0 0 [116,117])))))
 .nil))))
 (.lt (.bin .eql 3 false true) [65,J 3] 82 none
 (.ite 82
 (.callF 91 ft91 [64,65,66,67,68,69,70,71,72,73,74,78] 83
 (.cons 11
 (.done (.tup [J 0,95,96,97,98,99,100,101,102,103,104,105]))
 .nil))
 (.lt .inb [78,J 0] 83 none
 (.lt (.ldx 3 10 1) [78,83] 84 none
 (.lt (.bin .eql 3 false true) [65,J 17] 85 none
 (.ite 85
 (.lt (.bin .eql 3 false true) [84,J 1] 86 none
 (.ite 86
 (.done (.tup [J 0,65,66,67,68,69,70,71,72,73,74,J 4]))
 (.lt (.bin .eql 3 false true) [66,J 1] 87 none
 (.ite 87
 (.done (.tup [J 0,65,66,67,68,69,70,71,72,73,74,J 4]))
 (.done (.tup [J 0,65,66,67,68,69,70,71,72,73,78,J 0]))))))
 (.lt (.bin .eql 3 false true) [65,J 15] 86 none
 (.ite 86
 (.lt (.bin .eql 3 false true) [84,J 1] 87 none
 (.call 92 [87] 88 [none]
 (.done (.tup [J 0,65,J 1,67,68,69,70,71,72,73,78,88]))))
 (.lt (.bin .eql 3 false true) [65,J 16] 87 none
 (.ite 87
 (.lt (.bin .neq 3 false true) [84,J 1] 88 none
 (.call 92 [88] 89 [none]
 (.done (.tup [J 0,65,84,67,68,69,70,71,72,73,78,89]))))
 (.lt (.bin .geq 3 false true) [65,J 4] 88 none
 (.ite 88
 (.lt (.bin .leq 3 false true) [65,J 12] 89 none
 (.ite 89
 (.lt .inb [78,J 0] 90 none
 (.lt (.ldx 40 10 0) [78,90] 91 (some 10)
 (.lt .inb [78,J 1] 101 none
 (.lt (.ldx 3 10 1) [78,101] 102 none
 (.call 89 [.agg [91,92,93,94,95,96,97,98,99,100],102] 103 [(some 10)]
 (.lt .inb [78,J 1] 113 none
 (.lt (.ldx 40 10 0) [78,113] 114 (some 10)
 (.lt .inb [78,J 0] 124 none
 (.lt (.ldx 3 10 1) [78,124] 125 none
 (.call 89 [.agg [114,115,116,117,118,119,120,121,122,123],125] 126 [(some 10)]
 (.lt .inb [78,J 0] 136 none
 (.lt (.stx 40 10 0) [78,136,.agg [103,104,105,106,107,108,109,110,111,112]] 137 none
 (.lt .inb [78,J 1] 138 none
 (.lt (.stx 40 10 0) [137,138,.agg [126,127,128,129,130,131,132,133,134,135]] 139 none
 (.lt .inb [78,J 0] 140 none
 (.lt (.ldx 3 10 1) [139,140] 141 none
 (.lt .inb [78,J 1] 142 none
 (.lt (.ldx 3 10 1) [139,142] 143 none
 (.lt (.bin .eql 3 false false) [141,143] 144 none
 (.lt (.bin .eql 3 false true) [65,J 4] 145 none
 (.ite 145
 (.ite 144
 (.lt (.bin .neq 3 false true) [141,J 1] 146 none
 (.call 92 [146] 147 [none]
 (.chk (.same 78 139)
 (.done (.tup [J 0,65,141,67,68,69,70,71,72,73,139,147])))))
 (.call 92 [.bool false] 146 [none]
 (.chk (.same 78 139)
 (.done (.tup [J 0,65,141,67,68,69,70,71,72,73,139,146])))))
 (.lt (.bin .eql 3 false true) [65,J 5] 146 none
 (.ite 146
 (.ite 144
 (.lt (.bin .neq 3 false true) [141,J 1] 147 none
 (.call 92 [147] 148 [none]
 (.chk (.same 78 139)
 (.done (.tup [J 0,65,141,67,68,69,70,71,72,73,139,148])))))
 (.call 92 [.bool false] 147 [none]
 (.chk (.same 78 139)
 (.done (.tup [J 0,65,141,67,68,69,70,71,72,73,139,147])))))
 (.lt (.bin .eql 3 false true) [65,J 6] 147 none
 (.ite 147
 (.ite 144
 (.lt (.bin .neq 3 false true) [141,J 1] 148 none
 (.call 92 [148] 149 [none]
 (.chk (.same 78 139)
 (.done (.tup [J 0,65,141,67,68,69,70,71,72,73,139,149])))))
 (.call 92 [.bool false] 148 [none]
 (.chk (.same 78 139)
 (.done (.tup [J 0,65,141,67,68,69,70,71,72,73,139,148])))))
 (.lt (.bin .eql 3 false true) [65,J 7] 148 none
 (.ite 148
 (.ite 144
 (.lt (.bin .neq 3 false true) [141,J 1] 149 none
 (.call 92 [149] 150 [none]
 (.chk (.same 78 139)
 (.done (.tup [J 0,65,141,67,68,69,70,71,72,73,139,150])))))
 (.call 92 [.bool false] 149 [none]
 (.chk (.same 78 139)
 (.done (.tup [J 0,65,141,67,68,69,70,71,72,73,139,149])))))
 (.lt (.bin .eql 3 false true) [65,J 8] 149 none
 (.ite 149
 (.ite 144
 (.call 45 [141] 150 [none]
 (.call 92 [150] 151 [none]
 (.chk (.same 78 139)
 (.done (.tup [J 0,65,141,67,68,69,70,71,72,73,139,151])))))
 (.call 92 [.bool false] 150 [none]
 (.chk (.same 78 139)
 (.done (.tup [J 0,65,141,67,68,69,70,71,72,73,139,150])))))
 (.lt (.bin .eql 3 false true) [65,J 9] 150 none
 (.ite 150
 (.call 92 [144] 151 [none]
 (.chk (.same 78 139)
 (.done (.tup [J 0,65,J 1,67,68,69,70,71,72,73,139,151]))))
 (.lt (.bin .eql 3 false true) [65,J 10] 151 none
 (.ite 151
 (.call 92 [144] 152 [none]
 (.chk (.same 78 139)
 (.done (.tup [J 0,65,J 1,67,68,69,70,71,72,73,139,152]))))
 (.lt (.bin .eql 3 false true) [65,J 11] 152 none
 (.ite 152
 (.ite 144
 (.lt (.bin .neq 3 false true) [141,J 1] 153 none
 (.call 92 [153] 154 [none]
 (.chk (.same 78 139)
 (.done (.tup [J 0,65,J 1,67,68,69,70,71,72,73,139,154])))))
 (.call 92 [.bool false] 153 [none]
 (.chk (.same 78 139)
 (.done (.tup [J 0,65,J 1,67,68,69,70,71,72,73,139,153])))))
 (.lt (.bin .eql 3 false true) [65,J 12] 153 none
 (.ite 153
 (.ite 144
 (.lt (.bin .neq 3 false true) [141,J 1] 154 none
 (.call 92 [154] 155 [none]
 (.chk (.same 78 139)
 (.done (.tup [J 0,65,J 1,67,68,69,70,71,72,73,139,155])))))
 (.call 92 [.bool false] 154 [none]
 (.chk (.same 78 139)
 (.done (.tup [J 0,65,J 1,67,68,69,70,71,72,73,139,154])))))
 (.ite 144
 (.lt (.bin .eql 3 false true) [141,J 1] 154 none
 (.call 92 [154] 155 [none]
 (.chk (.same 78 139)
 (.done (.tup [J 0,65,J 1,67,68,69,70,71,72,73,139,155])))))
 (.call 92 [.bool false] 154 [none]
 (.chk (.same 78 139)
 (.done (.tup [J 0,65,J 1,67,68,69,70,71,72,73,139,154]))))))))))))))))))))))))))))))))))))))))))
 (.lt .inb [78,J 1] 90 none
 (.lt (.ldx 3 10 1) [78,90] 91 none
 (.lt (.bin .eql 3 false false) [84,91] 92 none
 (.lt (.bin .eql 3 false true) [65,J 4] 93 none
 (.ite 93
 (.ite 92
 (.lt (.bin .neq 3 false true) [84,J 1] 94 none
 (.call 92 [94] 95 [none]
 (.done (.tup [J 0,65,84,67,68,69,70,71,72,73,78,95]))))
 (.call 92 [.bool false] 94 [none]
 (.done (.tup [J 0,65,84,67,68,69,70,71,72,73,78,94]))))
 (.lt (.bin .eql 3 false true) [65,J 5] 94 none
 (.ite 94
 (.ite 92
 (.lt (.bin .neq 3 false true) [84,J 1] 95 none
 (.call 92 [95] 96 [none]
 (.done (.tup [J 0,65,84,67,68,69,70,71,72,73,78,96]))))
 (.call 92 [.bool false] 95 [none]
 (.done (.tup [J 0,65,84,67,68,69,70,71,72,73,78,95]))))
 (.lt (.bin .eql 3 false true) [65,J 6] 95 none
 (.ite 95
 (.ite 92
 (.lt (.bin .neq 3 false true) [84,J 1] 96 none
 (.call 92 [96] 97 [none]
 (.done (.tup [J 0,65,84,67,68,69,70,71,72,73,78,97]))))
 (.call 92 [.bool false] 96 [none]
 (.done (.tup [J 0,65,84,67,68,69,70,71,72,73,78,96]))))
 (.lt (.bin .eql 3 false true) [65,J 7] 96 none
 (.ite 96
 (.ite 92
 (.lt (.bin .neq 3 false true) [84,J 1] 97 none
 (.call 92 [97] 98 [none]
 (.done (.tup [J 0,65,84,67,68,69,70,71,72,73,78,98]))))
 (.call 92 [.bool false] 97 [none]
 (.done (.tup [J 0,65,84,67,68,69,70,71,72,73,78,97]))))
 (.lt (.bin .eql 3 false true) [65,J 8] 97 none
 (.ite 97
 (.ite 92
 (.call 45 [84] 98 [none]
 (.call 92 [98] 99 [none]
 (.done (.tup [J 0,65,84,67,68,69,70,71,72,73,78,99]))))
 (.call 92 [.bool false] 98 [none]
 (.done (.tup [J 0,65,84,67,68,69,70,71,72,73,78,98]))))
 (.lt (.bin .eql 3 false true) [65,J 9] 98 none
 (.ite 98
 (.call 92 [92] 99 [none]
 (.done (.tup [J 0,65,J 1,67,68,69,70,71,72,73,78,99])))
 (.lt (.bin .eql 3 false true) [65,J 10] 99 none
 (.ite 99
 (.call 92 [92] 100 [none]
 (.done (.tup [J 0,65,J 1,67,68,69,70,71,72,73,78,100])))
 (.lt (.bin .eql 3 false true) [65,J 11] 100 none
 (.ite 100
 (.ite 92
 (.lt (.bin .neq 3 false true) [84,J 1] 101 none
 (.call 92 [101] 102 [none]
 (.done (.tup [J 0,65,J 1,67,68,69,70,71,72,73,78,102]))))
 (.call 92 [.bool false] 101 [none]
 (.done (.tup [J 0,65,J 1,67,68,69,70,71,72,73,78,101]))))
 (.lt (.bin .eql 3 false true) [65,J 12] 101 none
 (.ite 101
 (.ite 92
 (.lt (.bin .neq 3 false true) [84,J 1] 102 none
 (.call 92 [102] 103 [none]
 (.done (.tup [J 0,65,J 1,67,68,69,70,71,72,73,78,103]))))
 (.call 92 [.bool false] 102 [none]
 (.done (.tup [J 0,65,J 1,67,68,69,70,71,72,73,78,102]))))
 (.ite 92
 (.lt (.bin .eql 3 false true) [84,J 1] 102 none
 (.call 92 [102] 103 [none]
 (.done (.tup [J 0,65,J 1,67,68,69,70,71,72,73,78,103]))))
 (.call 92 [.bool false] 102 [none]
 (.done (.tup [J 0,65,J 1,67,68,69,70,71,72,73,78,102])))))))))))))))))))))))))))
 (.lt .inb [78,J 1] 89 none
 (.lt (.ldx 3 10 1) [78,89] 90 none
 (.lt (.bin .eql 3 false false) [84,90] 91 none
 (.lt (.bin .eql 3 false true) [65,J 4] 92 none
 (.ite 92
 (.ite 91
 (.lt (.bin .neq 3 false true) [84,J 1] 93 none
 (.call 92 [93] 94 [none]
 (.done (.tup [J 0,65,84,67,68,69,70,71,72,73,78,94]))))
 (.call 92 [.bool false] 93 [none]
 (.done (.tup [J 0,65,84,67,68,69,70,71,72,73,78,93]))))
 (.lt (.bin .eql 3 false true) [65,J 5] 93 none
 (.ite 93
 (.ite 91
 (.lt (.bin .neq 3 false true) [84,J 1] 94 none
 (.call 92 [94] 95 [none]
 (.done (.tup [J 0,65,84,67,68,69,70,71,72,73,78,95]))))
 (.call 92 [.bool false] 94 [none]
 (.done (.tup [J 0,65,84,67,68,69,70,71,72,73,78,94]))))
 (.lt (.bin .eql 3 false true) [65,J 6] 94 none
 (.ite 94
 (.ite 91
 (.lt (.bin .neq 3 false true) [84,J 1] 95 none
 (.call 92 [95] 96 [none]
 (.done (.tup [J 0,65,84,67,68,69,70,71,72,73,78,96]))))
 (.call 92 [.bool false] 95 [none]
 (.done (.tup [J 0,65,84,67,68,69,70,71,72,73,78,95]))))
 (.lt (.bin .eql 3 false true) [65,J 7] 95 none
 (.ite 95
 (.ite 91
 (.lt (.bin .neq 3 false true) [84,J 1] 96 none
 (.call 92 [96] 97 [none]
 (.done (.tup [J 0,65,84,67,68,69,70,71,72,73,78,97]))))
 (.call 92 [.bool false] 96 [none]
 (.done (.tup [J 0,65,84,67,68,69,70,71,72,73,78,96]))))
 (.lt (.bin .eql 3 false true) [65,J 8] 96 none
 (.ite 96
 (.ite 91
 (.call 45 [84] 97 [none]
 (.call 92 [97] 98 [none]
 (.done (.tup [J 0,65,84,67,68,69,70,71,72,73,78,98]))))
 (.call 92 [.bool false] 97 [none]
 (.done (.tup [J 0,65,84,67,68,69,70,71,72,73,78,97]))))
 (.lt (.bin .eql 3 false true) [65,J 9] 97 none
 (.ite 97
 (.call 92 [91] 98 [none]
 (.done (.tup [J 0,65,J 1,67,68,69,70,71,72,73,78,98])))
 (.lt (.bin .eql 3 false true) [65,J 10] 98 none
 (.ite 98
 (.call 92 [91] 99 [none]
 (.done (.tup [J 0,65,J 1,67,68,69,70,71,72,73,78,99])))
 (.lt (.bin .eql 3 false true) [65,J 11] 99 none
 (.ite 99
 (.ite 91
 (.lt (.bin .neq 3 false true) [84,J 1] 100 none
 (.call 92 [100] 101 [none]
 (.done (.tup [J 0,65,J 1,67,68,69,70,71,72,73,78,101]))))
 (.call 92 [.bool false] 100 [none]
 (.done (.tup [J 0,65,J 1,67,68,69,70,71,72,73,78,100]))))
 (.lt (.bin .eql 3 false true) [65,J 12] 100 none
 (.ite 100
 (.ite 91
 (.lt (.bin .neq 3 false true) [84,J 1] 101 none
 (.call 92 [101] 102 [none]
 (.done (.tup [J 0,65,J 1,67,68,69,70,71,72,73,78,102]))))
 (.call 92 [.bool false] 101 [none]
 (.done (.tup [J 0,65,J 1,67,68,69,70,71,72,73,78,101]))))
 (.ite 91
 (.lt (.bin .eql 3 false true) [84,J 1] 101 none
 (.call 92 [101] 102 [none]
 (.done (.tup [J 0,65,J 1,67,68,69,70,71,72,73,78,102]))))
 (.call 92 [.bool false] 101 [none]
 (.done (.tup [J 0,65,J 1,67,68,69,70,71,72,73,78,101]))))))))))))))))))))))))))))))))))))))))
 .nil))))))))
theorem p45 (k:Int):Pure Try.prog 45 [.int .i64 k] (.bool (decide (k=2\/k=3\/k=4))):=by
 refine pure_shape (sh:=[none]) (ls:=[.int .i64 k]) (c:=c45) (n:=300) (t:=t45) mo ov rfl rfl rfl (λY _=>known0 _) rfl (by kernel_rfl) λY hf hg=>?_
 unfold t45
 (refine it_c rfl rfl (λh=>?_) (λh=>?_)<;>simp only [Cmp,Decidable.not_not,Int.not_lt,Int.not_le]at h<;>try (exfalso;first|exact h trivial|omega))
 ·refine VOK_done ?_
  show AV.bool _=_
  congr 1;symm;simp only [decide_eq_true_eq];omega
 (refine it_c rfl rfl (λh=>?_) (λh=>?_)<;>simp only [Cmp,Decidable.not_not,Int.not_lt,Int.not_le]at h<;>try (exfalso;first|exact h trivial|omega))
 ·refine VOK_done ?_
  show AV.bool _=_
  congr 1;symm;simp only [decide_eq_true_eq];omega
 refine VOK_lt (run_eql ..) rfl (VOK_done ?_)
 show AV.bool _=_
 congr 1
 refine decide_eq_decide.2 ?_
 omega
theorem typed0 {b:Bool} (h:(if b=true then (0:Int)else 4)=0):b=true:=by
 cases b with
 |true=>rfl
 |false=>simp at h
section
variable {P:Program} {Q:AV->Prop} {L:List (Nat->List AV->Prop)} {Y:Sy} {i:Nat} {A B:VT}
theorem it_d {p:Prop} [Decidable p] (h0:Y.v i=some (.bool (decide p))) (h1:p->VOK P Q L Y A) (h2:¬p->VOK P Q L Y B):VOK P Q L Y (.ite i A B):=
 VOK_ite h0 (λh=>h1 (of_decide_eq_true h)) (λh=>h2 (of_decide_eq_false h))
end
def RE (d:Nat) (x:GX):Nat->List AV->Prop:=λ_ ws=>∃(y:GX) (e:Int),ws=encX y++[.int .i64 e]/\(e=0->TX d y/\y.op=x.op)
theorem finE {d j:Nat} {x y:GX} {e:Int} {hv:List AV} {Y:Sy} {L:List (Nat->List AV->Prop)} (h:denL Y.v hv=encX y++[.int .i64 e]) (hw:e=0->TX d y/\y.op=x.op):VOK Try.prog (QF (RE d x)) L Y (.done (.tup (.int .i64 (.ofNat j)::hv))):=
 VOK_fin (by rw [h];exact okXn y e) ⟨y,e,h,hw⟩
def RM (x:GX) (k:Int):Nat->List AV->Prop:=λ_ ws=>∃e:Int,ws=(match x with| .mk op _ nm fd _ _ vk vi vf args=>encX (.mk op 2 nm fd 8 4 vk vi vf args))++[.int .i64 e]/\(e=0->k=2\/k=3)
theorem p91 (op kd:Int) (nm fd:List UInt8) (ad n vk vi:Int) (vf:Nat) (args:List GX) (y:GX) (h:nm=[107]):CF Try.prog 91 ft91 (VARS::(encX (.mk op kd nm fd ad n vk vi vf args)++[encA [y]])) (RM (.mk op kd nm fd ad n vk vi vf [y]) y.kd):=by
 subst h
 obtain ⟨yo,yk,ynm,yfd,yad,yn,yvk,yvi,yvf,ya⟩:=y
 refine cf_tree (c:=c91) (n:=300) (t:=t91) mo ov rfl (λY _=>known0 _) (by kernel_rfl) λY hf hg=>?_
 unfold t91
 refine VOK_call k88_107 rfl rfl (VOK_lt rfl rfl (VOK_ite rfl (λh=>by cases h) (λ_=>VOK_lt rfl rfl (VOK_ite rfl (λ_=>?_) (λh=>by cases h)))))
 refine VOK_lt (r:=.vptr (encX (.mk yo yk ynm yfd yad yn yvk yvi yvf ya)++encXs [])) rfl (by show okL _=true;exact encL_ok.okL_join (okX _) (okXs _)) ?_
 refine VOK_lt (r:=.vptr [.int .i64 yk,.str ynm,.str yfd,.int .i64 yad,.int .i64 yn,.int .i64 yvk,.int .i64 yvi,.flt .f64 yvf,encA ya]) rfl (by simp only [okC,okL,okA]) (VOK_lt (r:=.int .i64 yk) rfl rfl ?_)
 (refine it_c rfl rfl (λh=>?_) (λh=>?_)<;>simp only [Cmp,Decidable.not_not,Int.not_lt,Int.not_le]at h<;>try (exfalso;first|exact h trivial|omega))
 ·refine VOK_call (p92 true) rfl rfl (VOK_fin (by show okL (encX (.mk op 2 [107] fd 8 4 vk vi vf [_])++[_])=true;exact okXn _ _) ⟨_,rfl,λ_=>.inl h⟩)
 ·refine VOK_lt (r:=.vptr (encX (.mk yo yk ynm yfd yad yn yvk yvi yvf ya)++encXs [])) rfl (by show okL _=true;exact encL_ok.okL_join (okX _) (okXs _)) ?_
  refine VOK_lt (r:=.vptr [.int .i64 yk,.str ynm,.str yfd,.int .i64 yad,.int .i64 yn,.int .i64 yvk,.int .i64 yvi,.flt .f64 yvf,encA ya]) rfl (by simp only [okC,okL,okA]) (VOK_lt (r:=.int .i64 yk) rfl rfl ?_)
  refine VOK_lt (run_eql ..) rfl (VOK_call (p92 _) rfl rfl (VOK_fin (by show okL (encX (.mk op 2 [107] fd 8 4 vk vi vf [_])++[_])=true;exact okXn _ _) ⟨_,rfl,λh=>.inr ?_⟩))
  exact of_decide_eq_true (typed0 h)
theorem run_len38 (l:List GX):(XOp.len 38).run Try.prog [encA l]=some (.int .i64 (l.length:Int)):=by rw [encA_eq];exact run_len_sl Try.underlying38 l
theorem run_ia38 (l:List GX) {i:Nat} (h:i<l.length):(XOp.iaddr 38).run Try.prog [encA l,.int .i64 (i:Int)]=some (.vptr (encL encX (l.drop i))):=by
 rw [encA_eq];exact run_iaddr_sl (e:=40) (ti:=(Try.prog.info? 40).get!) Try.underlying38 (by kernel_rfl) (by kernel_rfl) lenX h .i64
theorem run_ld40 (l:List GX) {i:Nat} (h:i<l.length):(XOp.load 40).run Try.prog [.vptr (encL encX (l.drop i))]=some (.agg (encX l[i])):=
 run_load_agg (ti:=(Try.prog.info? 40).get!) Try.underlying40 rfl (by kernel_rfl) (by kernel_rfl) lenX h
theorem run_app10 (l:List GX) (s:GX) (hl:l.length<=100000):(XOp.app 10 112).run Try.prog [encA l,.agg (encX s)]=some (encA (l++[s])):=by
 rw [encA_eq,encA_eq]
 exact run_app_sl lenX (by decide) (by decide) l s (by omega)
theorem run_stx40 (l:List GX) {i:Nat} (hi:i<l.length) (y:GX) (k:IntKind):(XOp.stx 40 10 0).run Try.prog [encA l,.int k (i:Int),.agg (encX y)]=some (encA (l.set i y)):=by
 rw [encA_eq,encA_eq]
 exact run_stx (ti:=(Try.prog.info? 40).get!) lenX hi (p:=[]) (q:=encX l[i]) (r:=[]) (xs:=encX y) rfl (.inl rfl) (by kernel_rfl) (by rw [lenX];kernel_rfl) (allOne_ok (okX _)) (by simp) rfl (by rw [lenX,lenX]) (by simp) k
theorem okXe (x:GX):okL (encX x++[])=true:=by rw [List.append_nil];exact okX x
def typ (b:Bool):Int:=if b=true then 0 else 4
theorem typ0 {b:Bool} (h:typ b=0):b=true:=typed0 h
theorem p92t (b:Bool):Pure Try.prog 92 [.bool b] (.int .i64 (typ b)):=p92 b
attribute [irreducible] typ
theorem TX1 {d:Nat} {op kd ad n vk vi:Int} {nm fd:List UInt8} {vf:Nat} {y:GX} (hf:Flt4 vf) (hy:TX d y) (ho:op=15/\kd=1/\y.kd=1\/op=16/\kd=y.kd/\y.kd≠1\/op=17/\2<=kd/\kd<=5/\y.kd≠1):TX (d+1) (.mk op kd nm fd ad n vk vi vf [y]):=by
 have hk:=TX_kd hy
 refine ⟨.inr (.inl ⟨by omega,rfl⟩),hf,by omega,by omega,⟨λh=>by omega,λh=>by omega,λh=>by omega,λh=>by omega,λh=>?_,λh=>?_,λh=>?_⟩,λa ha=>by cases List.mem_singleton.1 ha;exact hy⟩
 ·exact ⟨by omega,by show [y.kd]=[1];congr 1;omega⟩
 ·exact ⟨by show [y.kd]=[kd];congr 1;omega,by omega,by omega⟩
 ·exact ⟨by omega,by omega,y.kd,rfl,by omega,by omega⟩
theorem TX2 {d:Nat} {op kd ad n vk vi:Int} {nm fd:List UInt8} {vf:Nat} {y z:GX} (hf:Flt4 vf) (hy:TX d y) (hz:TX d z) (ho:4<=op/\op<=14) (hk:y.kd=z.kd) (h1:op<=8->kd=y.kd/\y.kd≠1) (h2:9<=op->kd=1) (h3:op=8->y.kd≠5) (h4:op=11\/op=12->y.kd≠1) (h5:13<=op->y.kd=1):TX (d+1) (.mk op kd nm fd ad n vk vi vf [y,z]):=by
 have hy1:=TX_kd hy
 refine ⟨.inr (.inr ⟨ho,rfl⟩),hf,by omega,by omega,⟨λh=>by omega,λh=>by omega,λh=>by omega,λh=>?_,λh=>by omega,λh=>by omega,λh=>by omega⟩,λa ha=>by
  rcases List.mem_cons.1 ha with rfl|ha
  ·exact hy
  ·cases List.mem_singleton.1 ha;exact hz⟩
 exact ⟨y.kd,by show [y.kd,z.kd]=_;rw [←hk],hy1.1,hy1.2,h1,h2,h3,h4,h5⟩
theorem p80:∀(d:Nat) (x:GX),WX d x->CF Try.prog 80 ft80 (VARS::encX x) (RE d x)
 |0,_,h=>h.elim
 |d+1,.mk op kd nm fd ad n vk vi vf args,hx=>by
  obtain ⟨hA,hF,⟨n1,n2,n3,n4⟩,hW⟩:=hx
  have ih:=λ(z:GX) (hz:z∈args)=>p80 d z (hW z hz)
  have hal:args.length<=2:=by unfold Ari at hA;omega
  refine cf_tree (c:=c80) (n:=300) (t:=t80) mo ov rfl (λY _=>known0 _) (by kernel_rfl) λY hf hg=>?_
  unfold t80
  (refine it_c rfl rfl (λh=>?_) (λh=>?_)<;>simp only [Cmp,Decidable.not_not,Int.not_lt,Int.not_le]at h<;>try (exfalso;first|exact h trivial|omega))
  ·subst h
   have hl:args=[]:=by unfold Ari at hA;exact List.length_eq_zero_iff.1 (by omega)
   subst hl
   refine finE (y:=.mk 1 vk nm fd ad n vk vi vf []) rfl (λ_=>⟨⟨hA,hF,?_,?_,?_,λa ha=>(List.not_mem_nil ha).elim⟩,rfl⟩)
   all_goals obtain ⟨m1,m2,m3,m4,m5,m6⟩:=n1 rfl
   ·omega
   ·omega
   ·exact ⟨λ_=>⟨rfl,by omega,by omega,m2,m3,m4,m5,m6⟩,λh=>by omega,λh=>by omega,λh=>by omega,λh=>by omega,λh=>by omega,λh=>by omega⟩
  (refine it_c rfl rfl (λh=>?_) (λh=>?_)<;>simp only [Cmp,Decidable.not_not,Int.not_lt,Int.not_le]at h<;>try (exfalso;first|exact h trivial|omega))
  ·subst h
   have hl:args=[]:=by unfold Ari at hA;exact List.length_eq_zero_iff.1 (by omega)
   subst hl
   refine callF' (p90 2 kd nm fd ad n vk vi vf [] (n2 rfl)) rfl (by show okL (VARS::encX (.mk 2 kd nm fd ad n vk vi vf []))=true;rw [okL_cons];exact okX _) ⟨?_,trivial⟩
   rintro ws ⟨ad1,kd1,rfl,hc⟩
   refine finE (y:=.mk 2 kd1 nm fd ad1 n vk vi vf []) rfl (λ_=>⟨⟨hA,hF,?_,?_,⟨λh=>by omega,λ_=>hc,λh=>by omega,λh=>by omega,λh=>by omega,λh=>by omega,λh=>by omega⟩,λa ha=>(List.not_mem_nil ha).elim⟩,rfl⟩)
   ·simp [cellsL]at hc;omega
   ·simp [cellsL]at hc;omega
  (refine it_c rfl rfl (λh=>?_) (λh=>?_)<;>simp only [Cmp,Decidable.not_not,Int.not_lt,Int.not_le]at h<;>try (exfalso;first|exact h trivial|omega))
  ·subst h
   cases n3 rfl
   refine VOK_call k88_107 rfl rfl (VOK_lt rfl rfl (VOK_ite rfl (λh=>by cases h) (λ_=>VOK_lt rfl rfl (VOK_ite rfl (λh=>by cases h) (λ_=>?_)))))
   refine VOK_loop (ι:=List GX×Nat) (λs=>[encA s.1,.int .i64 (s.2:Int)]) (λs=>s.1.length=s.2/\s.2<=args.length/\∀a∈s.1,TX d a) (λs=>args.length-s.2) ([],0) ⟨rfl,Nat.zero_le _,λa ha=>(List.not_mem_nil ha).elim⟩ rfl (λs _=>by simp only [okL,okC,okA]) (λs s' _ _ h=>by simp at h;omega) (λs hs=>?_)
   obtain ⟨acc,i⟩:=s
   obtain ⟨h1,h2,h3⟩:=hs
   simp only at h1 h2 h3⊢
   refine VOK_lt (run_len38 args) rfl ?_
   (refine it_c rfl rfl (λh=>?_) (λh=>?_)<;>simp only [Cmp,Decidable.not_not,Int.not_lt,Int.not_le]at h<;>try (exfalso;first|exact h trivial|omega))
   ·have hi:i<args.length:=by omega
    have hld:=run_ld40 args hi
    have hz:=ih args[i] (List.getElem_mem hi)
    rcases hzz:args[i]with ⟨zo,zk,znm,zfd,zad,zn,zvk,zvi,zvf,za⟩
    rw [hzz]at hld hz
    refine VOK_lt (run_ia38 args hi) (encL_ok okX _) (VOK_ltN hld rfl (okX _) ?_)
    refine callF' hz rfl (by show okL (VARS::encX (.mk zo zk znm zfd zad zn zvk zvi zvf za))=true;rw [okL_cons];exact okX _) ⟨?_,trivial⟩
    rintro ws ⟨⟨yo,yk,ynm,yfd,yad,yn,yvk,yvi,yvf,ya⟩,e,rfl,hy⟩
    (refine it_c rfl rfl (λh=>?_) (λh=>?_)<;>simp only [Cmp,Decidable.not_not,Int.not_lt,Int.not_le]at h<;>try (exfalso;first|exact h trivial|omega))
    ·exact finE (y:=.mk _ _ _ _ _ _ _ _ _ _) rfl (λhe=>absurd he h)
    ·refine VOK_lt (run_app10 acc (.mk yo yk ynm yfd yad yn yvk yvi yvf ya) (by omega)) (okA _) (VOK_lt (add_c (by omega) (by omega)) rfl (VOK_again rfl ⟨(acc++[_],i+1),⟨by simp;omega,hi,?_⟩,rfl,by simp only;omega⟩))
     intro a ha
     rcases List.mem_append.1 ha with ha|ha
     ·exact h3 a ha
     ·cases List.mem_singleton.1 ha;exact (hy h).1
   have hi:i=args.length:=by omega
   subst hi
   have ha1:acc.length=1:=by unfold Ari at hA;omega
   obtain ⟨y,rfl⟩:=List.length_eq_one_iff.1 ha1
   have hy:=h3 y (List.mem_singleton.2 rfl)
   obtain ⟨yo,yk,ynm,yfd,yad,yn,yvk,yvi,yvf,ya⟩:=y
   (refine it_c rfl rfl (λh=>?_) (λh=>?_)<;>simp only [Cmp,Decidable.not_not,Int.not_lt,Int.not_le]at h<;>try (exfalso;first|exact h trivial|omega))
   refine callF' (p91 3 kd [107] fd ad n vk vi vf args _ rfl) rfl (by show okL (VARS::(encX (.mk 3 kd [107] fd ad n vk vi vf args)++[encA _]))=true;rw [okL_cons];exact encL_ok.okL_join (okX _) (by simp only [okL,okA])) ⟨?_,trivial⟩
   rintro ws ⟨e,rfl,he⟩
   refine finE (y:=.mk 3 2 [107] fd 8 4 vk vi vf [.mk _ _ _ _ _ _ _ _ _ _]) rfl (λh=>⟨⟨.inr (.inl ⟨.inl rfl,rfl⟩),hF,by decide,by decide,⟨λh=>by omega,λh=>by omega,λ_=>⟨rfl,rfl,rfl,_,rfl,he h⟩,λh=>by omega,λh=>by omega,λh=>by omega,λh=>by omega⟩,λa ha=>by cases List.mem_singleton.1 ha;exact hy⟩,rfl⟩)
  ·refine VOK_loop (ι:=List GX×Nat) (λs=>[encA s.1,.int .i64 (s.2:Int)]) (λs=>s.1.length=s.2/\s.2<=args.length/\∀a∈s.1,TX d a) (λs=>args.length-s.2) ([],0) ⟨rfl,Nat.zero_le _,λa ha=>(List.not_mem_nil ha).elim⟩ rfl (λs _=>by simp only [okL,okC,okA]) (λs s' _ _ h=>by simp at h;omega) (λs hs=>?_)
   obtain ⟨acc,i⟩:=s
   obtain ⟨h1,h2,h3⟩:=hs
   simp only at h1 h2 h3⊢
   refine VOK_lt (run_len38 args) rfl ?_
   (refine it_c rfl rfl (λh=>?_) (λh=>?_)<;>simp only [Cmp,Decidable.not_not,Int.not_lt,Int.not_le]at h<;>try (exfalso;first|exact h trivial|omega))
   ·have hi:i<args.length:=by omega
    have hld:=run_ld40 args hi
    have hz:=ih args[i] (List.getElem_mem hi)
    rcases hzz:args[i]with ⟨zo,zk,znm,zfd,zad,zn,zvk,zvi,zvf,za⟩
    rw [hzz]at hld hz
    refine VOK_lt (run_ia38 args hi) (encL_ok okX _) (VOK_ltN hld rfl (okX _) ?_)
    refine callF' hz rfl (by show okL (VARS::encX (.mk zo zk znm zfd zad zn zvk zvi zvf za))=true;rw [okL_cons];exact okX _) ⟨?_,trivial⟩
    rintro ws ⟨⟨yo,yk,ynm,yfd,yad,yn,yvk,yvi,yvf,ya⟩,e,rfl,hy⟩
    (refine it_c rfl rfl (λh=>?_) (λh=>?_)<;>simp only [Cmp,Decidable.not_not,Int.not_lt,Int.not_le]at h<;>try (exfalso;first|exact h trivial|omega))
    ·exact finE (y:=.mk _ _ _ _ _ _ _ _ _ _) rfl (λhe=>absurd he h)
    ·refine VOK_lt (run_app10 acc (.mk yo yk ynm yfd yad yn yvk yvi yvf ya) (by omega)) (okA _) (VOK_lt (add_c (by omega) (by omega)) rfl (VOK_again rfl ⟨(acc++[_],i+1),⟨by simp;omega,hi,?_⟩,rfl,by simp only;omega⟩))
     intro a ha
     rcases List.mem_append.1 ha with ha|ha
     ·exact h3 a ha
     ·cases List.mem_singleton.1 ha;exact (hy h).1
   have hi:i=args.length:=by omega
   subst hi
   by_cases hop:15<=op
   ·have hop2:op=15\/op=16\/op=17:=by unfold Ari at hA;omega
    have ha1:acc.length=1:=by unfold Ari at hA;omega
    obtain ⟨y,rfl⟩:=List.length_eq_one_iff.1 ha1
    have hy:=h3 y (List.mem_singleton.2 rfl)
    obtain ⟨yo,yk,ynm,yfd,yad,yn,yvk,yvi,yvf,ya⟩:=y
    have n4':op=17->2<=kd/\kd<=5:=n4
    rcases hop2 with rfl|rfl|rfl
    ·(refine it_c rfl rfl (λh=>?_) (λh=>?_)<;>simp only [Cmp,Decidable.not_not,Int.not_lt,Int.not_le]at h<;>try (exfalso;first|exact h trivial|omega))
     refine VOK_lt (r:=.int .i64 0) rfl rfl (VOK_lt (r:=.int .i64 yk) rfl rfl ?_)
     repeat' (first
               |(refine it_c rfl rfl (λh=>?_) (λh=>?_)<;>simp only [Cmp,Decidable.not_not,Int.not_lt,Int.not_le]at h<;>try (exfalso;first|exact h trivial|omega))
               |refine VOK_call (p92t _) rfl rfl ?_
               |refine VOK_call (p45 _) rfl rfl ?_
               |refine VOK_chk (.inr ⟨_,_,_,_,rfl,rfl⟩) ?_
               |refine it_d rfl (λh=>?_) (λh=>?_)
               |refine VOK_lt (run_eql ..) rfl ?_
               |refine VOK_lt (run_neq ..) rfl ?_)
     all_goals (first
                 |exact finE (y:=.mk _ _ _ _ _ _ _ _ _ _) rfl (λhe=>absurd he (by decide))
                 |(refine finE (y:=.mk _ _ _ _ _ _ _ _ _ [.mk _ _ _ _ _ _ _ _ _ _]) rfl (λhe=>?_)
                   have he2:=typ0 he
                   simp only [decide_eq_true_eq,Bool.not_eq_true',decide_eq_false_iff_not]at he2
                   refine ⟨TX1 hF hy ?_,rfl⟩
                   dsimp only [GX.kd]
                   omega)
                 |(refine finE (y:=.mk _ _ _ _ _ _ _ _ _ [.mk _ _ _ _ _ _ _ _ _ _]) rfl (λhe=>?_)
                   refine ⟨TX1 hF hy ?_,rfl⟩
                   dsimp only [GX.kd]
                   omega))
    ·(refine it_c rfl rfl (λh=>?_) (λh=>?_)<;>simp only [Cmp,Decidable.not_not,Int.not_lt,Int.not_le]at h<;>try (exfalso;first|exact h trivial|omega))
     refine VOK_lt (r:=.int .i64 0) rfl rfl (VOK_lt (r:=.int .i64 yk) rfl rfl ?_)
     repeat' (first
               |(refine it_c rfl rfl (λh=>?_) (λh=>?_)<;>simp only [Cmp,Decidable.not_not,Int.not_lt,Int.not_le]at h<;>try (exfalso;first|exact h trivial|omega))
               |refine VOK_call (p92t _) rfl rfl ?_
               |refine VOK_call (p45 _) rfl rfl ?_
               |refine VOK_chk (.inr ⟨_,_,_,_,rfl,rfl⟩) ?_
               |refine it_d rfl (λh=>?_) (λh=>?_)
               |refine VOK_lt (run_eql ..) rfl ?_
               |refine VOK_lt (run_neq ..) rfl ?_)
     all_goals (first
                 |exact finE (y:=.mk _ _ _ _ _ _ _ _ _ _) rfl (λhe=>absurd he (by decide))
                 |(refine finE (y:=.mk _ _ _ _ _ _ _ _ _ [.mk _ _ _ _ _ _ _ _ _ _]) rfl (λhe=>?_)
                   have he2:=typ0 he
                   simp only [decide_eq_true_eq,Bool.not_eq_true',decide_eq_false_iff_not]at he2
                   refine ⟨TX1 hF hy ?_,rfl⟩
                   dsimp only [GX.kd]
                   omega)
                 |(refine finE (y:=.mk _ _ _ _ _ _ _ _ _ [.mk _ _ _ _ _ _ _ _ _ _]) rfl (λhe=>?_)
                   refine ⟨TX1 hF hy ?_,rfl⟩
                   dsimp only [GX.kd]
                   omega))
    ·(refine it_c rfl rfl (λh=>?_) (λh=>?_)<;>simp only [Cmp,Decidable.not_not,Int.not_lt,Int.not_le]at h<;>try (exfalso;first|exact h trivial|omega))
     have n5:=n4 rfl
     refine VOK_lt (r:=.int .i64 0) rfl rfl (VOK_lt (r:=.int .i64 yk) rfl rfl ?_)
     repeat' (first
               |(refine it_c rfl rfl (λh=>?_) (λh=>?_)<;>simp only [Cmp,Decidable.not_not,Int.not_lt,Int.not_le]at h<;>try (exfalso;first|exact h trivial|omega))
               |refine VOK_call (p92t _) rfl rfl ?_
               |refine VOK_call (p45 _) rfl rfl ?_
               |refine VOK_chk (.inr ⟨_,_,_,_,rfl,rfl⟩) ?_
               |refine it_d rfl (λh=>?_) (λh=>?_)
               |refine VOK_lt (run_eql ..) rfl ?_
               |refine VOK_lt (run_neq ..) rfl ?_)
     all_goals (first
                 |exact finE (y:=.mk _ _ _ _ _ _ _ _ _ _) rfl (λhe=>absurd he (by decide))
                 |(refine finE (y:=.mk _ _ _ _ _ _ _ _ _ [.mk _ _ _ _ _ _ _ _ _ _]) rfl (λhe=>?_)
                   have he2:=typ0 he
                   simp only [decide_eq_true_eq,Bool.not_eq_true',decide_eq_false_iff_not]at he2
                   refine ⟨TX1 hF hy ?_,rfl⟩
                   dsimp only [GX.kd]
                   omega)
                 |(refine finE (y:=.mk _ _ _ _ _ _ _ _ _ [.mk _ _ _ _ _ _ _ _ _ _]) rfl (λhe=>?_)
                   refine ⟨TX1 hF hy ?_,rfl⟩
                   dsimp only [GX.kd]
                   omega))
   ·have hop2:4<=op/\op<=14:=by unfold Ari at hA;omega
    have ha1:acc.length=2:=by unfold Ari at hA;omega
    obtain ⟨y,z,rfl⟩:∃y z,acc=[y,z]:=by
     rcases acc with _|⟨y,_|⟨z,_|⟨w,t⟩⟩⟩<;>simp at ha1
     exact ⟨y,z,rfl⟩
    have hy:=h3 y (List.mem_cons_self ..)
    have hz:=h3 z (List.mem_cons_of_mem _ (List.mem_singleton.2 rfl))
    obtain ⟨yo,yk,ynm,yfd,yad,yn,yvk,yvi,yvf,ya⟩:=y
    obtain ⟨zo,zk,znm,zfd,zad,zn,zvk,zvi,zvf,za⟩:=z
    (refine it_c rfl rfl (λh=>?_) (λh=>?_)<;>simp only [Cmp,Decidable.not_not,Int.not_lt,Int.not_le]at h<;>try (exfalso;first|exact h trivial|omega))
    refine VOK_lt (r:=.int .i64 0) rfl rfl (VOK_lt (r:=.int .i64 yk) rfl rfl ?_)
    (refine it_c rfl rfl (λh=>?_) (λh=>?_)<;>simp only [Cmp,Decidable.not_not,Int.not_lt,Int.not_le]at h<;>try (exfalso;first|exact h trivial|omega));(refine it_c rfl rfl (λh=>?_) (λh=>?_)<;>simp only [Cmp,Decidable.not_not,Int.not_lt,Int.not_le]at h<;>try (exfalso;first|exact h trivial|omega));(refine it_c rfl rfl (λh=>?_) (λh=>?_)<;>simp only [Cmp,Decidable.not_not,Int.not_lt,Int.not_le]at h<;>try (exfalso;first|exact h trivial|omega));(refine it_c rfl rfl (λh=>?_) (λh=>?_)<;>simp only [Cmp,Decidable.not_not,Int.not_lt,Int.not_le]at h<;>try (exfalso;first|exact h trivial|omega))
    (refine it_c rfl rfl (λh=>?_) (λh=>?_)<;>simp only [Cmp,Decidable.not_not,Int.not_lt,Int.not_le]at h<;>try (exfalso;first|exact h trivial|omega))
    ·refine VOK_lt (r:=.int .i64 0) rfl rfl (VOK_ltN (cs:=encX (.mk yo yk ynm yfd yad yn yvk yvi yvf ya)) rfl rfl (okX _) (VOK_lt (r:=.int .i64 1) rfl rfl (VOK_lt (r:=.int .i64 zk) rfl rfl ?_)))
     obtain ⟨⟨yo1,yk1,ynm1,yfd1,yad1,yn1,yvk1,yvi1,yvf1,ya1⟩,hp1,hy1⟩:=p89 _ zk hy
     refine VOK_call hp1 rfl (okXe _) ?_
     refine VOK_lt (r:=.int .i64 1) rfl rfl (VOK_ltN (cs:=encX (.mk zo zk znm zfd zad zn zvk zvi zvf za)) rfl rfl (okX _) (VOK_lt (r:=.int .i64 0) rfl rfl (VOK_lt (r:=.int .i64 yk) rfl rfl ?_)))
     obtain ⟨⟨zo1,zk1,znm1,zfd1,zad1,zn1,zvk1,zvi1,zvf1,za1⟩,hp2,hz1⟩:=p89 _ yk hz
     refine VOK_call hp2 rfl (okXe _) ?_
     clear hy hz
     have hy:=hy1
     have hz:=hz1
     refine VOK_lt (r:=.int .i64 0) rfl rfl (VOK_lt (r:=encA [.mk yo1 yk1 ynm1 yfd1 yad1 yn1 yvk1 yvi1 yvf1 ya1,.mk zo zk znm zfd zad zn zvk zvi zvf za]) (run_stx40 [(.mk yo yk ynm yfd yad yn yvk yvi yvf ya),(.mk zo zk znm zfd zad zn zvk zvi zvf za)] (i:=0) (by simp) (.mk yo1 yk1 ynm1 yfd1 yad1 yn1 yvk1 yvi1 yvf1 ya1) .i64) (okA _) (VOK_lt (r:=.int .i64 1) rfl rfl (VOK_lt (r:=encA [.mk yo1 yk1 ynm1 yfd1 yad1 yn1 yvk1 yvi1 yvf1 ya1,.mk zo1 zk1 znm1 zfd1 zad1 zn1 zvk1 zvi1 zvf1 za1]) (run_stx40 [(.mk yo1 yk1 ynm1 yfd1 yad1 yn1 yvk1 yvi1 yvf1 ya1),(.mk zo zk znm zfd zad zn zvk zvi zvf za)] (i:=1) (by simp) (.mk zo1 zk1 znm1 zfd1 zad1 zn1 zvk1 zvi1 zvf1 za1) .i64) (okA _) ?_)))
     refine VOK_lt (r:=.int .i64 0) rfl rfl (VOK_lt (r:=.int .i64 yk1) rfl rfl (VOK_lt (r:=.int .i64 1) rfl rfl (VOK_lt (r:=.int .i64 zk1) rfl rfl ?_)))
     repeat' (first
               |(refine it_c rfl rfl (λh=>?_) (λh=>?_)<;>simp only [Cmp,Decidable.not_not,Int.not_lt,Int.not_le]at h<;>try (exfalso;first|exact h trivial|omega))
               |refine VOK_call (p92t _) rfl rfl ?_
               |refine VOK_call (p45 _) rfl rfl ?_
               |refine VOK_chk (.inr ⟨_,_,_,_,rfl,rfl⟩) ?_
               |refine it_d rfl (λh=>?_) (λh=>?_)
               |refine VOK_lt (run_eql ..) rfl ?_
               |refine VOK_lt (run_neq ..) rfl ?_)
     all_goals (
                refine finE (y:=.mk _ _ _ _ _ _ _ _ _ [.mk _ _ _ _ _ _ _ _ _ _,.mk _ _ _ _ _ _ _ _ _ _]) rfl (λhe=>?_)
                have he2:=typ0 he
                first
                 |(exact absurd he2 (by decide))
                 |(simp only [decide_eq_true_eq,Bool.not_eq_true',decide_eq_false_iff_not]at he2
                   exact ⟨TX2 hF hy hz (by omega) (by dsimp only [GX.kd];omega) (by dsimp only [GX.kd];omega) (by omega) (by dsimp only [GX.kd];omega) (by dsimp only [GX.kd];omega) (by dsimp only [GX.kd];omega),rfl⟩))
    ·refine VOK_lt (r:=.int .i64 1) rfl rfl (VOK_lt (r:=.int .i64 zk) rfl rfl ?_)
     repeat' (first
               |(refine it_c rfl rfl (λh=>?_) (λh=>?_)<;>simp only [Cmp,Decidable.not_not,Int.not_lt,Int.not_le]at h<;>try (exfalso;first|exact h trivial|omega))
               |refine VOK_call (p92t _) rfl rfl ?_
               |refine VOK_call (p45 _) rfl rfl ?_
               |refine VOK_chk (.inr ⟨_,_,_,_,rfl,rfl⟩) ?_
               |refine it_d rfl (λh=>?_) (λh=>?_)
               |refine VOK_lt (run_eql ..) rfl ?_
               |refine VOK_lt (run_neq ..) rfl ?_)
     all_goals (
                refine finE (y:=.mk _ _ _ _ _ _ _ _ _ [.mk _ _ _ _ _ _ _ _ _ _,.mk _ _ _ _ _ _ _ _ _ _]) rfl (λhe=>?_)
                have he2:=typ0 he
                first
                 |(exact absurd he2 (by decide))
                 |(simp only [decide_eq_true_eq,Bool.not_eq_true',decide_eq_false_iff_not]at he2
                   exact ⟨TX2 hF hy hz (by omega) (by dsimp only [GX.kd];omega) (by dsimp only [GX.kd];omega) (by omega) (by dsimp only [GX.kd];omega) (by dsimp only [GX.kd];omega) (by dsimp only [GX.kd];omega),rfl⟩))
end Go.Proofs.Ytjconanknjgpnaa.vars
