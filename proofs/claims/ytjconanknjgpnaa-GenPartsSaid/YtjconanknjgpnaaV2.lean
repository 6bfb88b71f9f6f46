/-
  Expressions of numbers: leaf, Expr.
-/
import Derived.Test.YtjconanknjgpnaaF0
set_option maxRecDepth 100000
set_option linter.unusedVariables false
set_option linter.unusedSimpArgs false
namespace Go.Proofs.Ytjconanknjgpnaa.vars
open Go Go.Sx
def RI (l : List UInt8) (m : Int) : Nat → List AV → Prop := fun _ ws => ∃ v n : Nat, ws = [.int .i64 (v : Int), .int .i64 (n : Int)] ∧ (v : Int) < m ∧ n ≤ l.length
theorem cf_mono {f : FuncId} {ft : FT} {vs : List AV} {R R' : Nat → List AV → Prop} (h : CF Try.prog f ft vs R) (hr : ∀ j ws, R j ws → R' j ws) : CF Try.prog f ft vs R' :=
 ⟨h.1, fun Y hf B pr E w us h1 h2 h3 h4 => (h.2 Y hf B pr E w us h1 h2 h3 h4).mono fun e w' ⟨Y', r, ⟨j, ws, b, tp, q1, q2, q3⟩, hp⟩ => ⟨Y', r, ⟨j, ws, b, tp, q1, hr _ _ q2, q3⟩, hp⟩⟩
theorem p64i {l : List UInt8} {a : AV} {n : Nat} {m : Int} (h : Pk l a) (hn : n ≤ l.length) (hm : 0 < m) (hm2 : m ≤ 1000) : CF Try.prog 64 ft64 [a, .int .i64 (n : Int), .int .i64 m] (RI l m) := by
 have e : m = ((m.toNat : Nat) : Int) := by omega
 have := p64 h hn (m := m.toNat) (by omega) (by omega)
 rw [← e] at this
 exact cf_mono this fun j ws ⟨v, n, h1, h2, h3⟩ => ⟨v, n, h1, by omega, h3⟩
def RX (l : List UInt8) (d : Nat) : Nat → List AV → Prop := fun _ ws => ∃ (x : GX) (n : Nat), ws = encX x ++ [.int .i64 (n : Int)] ∧ WX (d + 1) x ∧ n ≤ l.length
def PX (l : List UInt8) (a : AV) (f : FuncId) (d : Nat) : Prop := ∀ (n : Nat) (k : Int), n ≤ l.length → 1 ≤ k ∧ k ≤ 5 → CF Try.prog f ftX [a, .int .i64 (n : Int), .int .i64 k, .int .i64 (d : Int)] (RX l d)
theorem WX_lit {d : Nat} {kd ad n vk vi : Int} {nm fd : List UInt8} {vf : Nat} (ho : LitOk vk vi vf) (hf : Flt4 vf) : WX (d + 1) (.mk 1 kd nm fd ad n vk vi vf []) := ⟨.inl ⟨.inl rfl, rfl⟩, hf, ⟨fun _ => ho, fun h => by omega, fun h => by omega, fun h => by omega⟩, fun a ha => (List.not_mem_nil ha).elim⟩
theorem WX_name {d : Nat} {kd ad n vk vi : Int} {nm fd : List UInt8} (ho : (nm, fd) ∈ loads) : WX (d + 1) (.mk 2 kd nm fd ad n vk vi 0 []) := ⟨.inl ⟨.inr rfl, rfl⟩, .inl rfl, ⟨fun h => by omega, fun _ => ho, fun h => by omega, fun h => by omega⟩, fun a ha => (List.not_mem_nil ha).elim⟩
theorem WX_1 {d : Nat} {op kd ad n vk vi : Int} {nm fd : List UInt8} {x : GX} (ho : op = 3 ∧ nm = [107] ∨ op = 15 ∨ op = 16 ∨ op = 17 ∧ 2 ≤ kd ∧ kd ≤ 5) (h : WX d x) : WX (d + 1) (.mk op kd nm fd ad n vk vi 0 [x]) := by
 refine ⟨.inr (.inl ⟨by omega, rfl⟩), .inl rfl, ⟨fun h => by omega, fun h => by omega, fun h => ?_, fun h => by omega⟩, fun a ha => by cases List.mem_singleton.1 ha; exact h⟩
 rcases ho with ho | ho | ho | ho
 ·exact ho.2
 all_goals omega
theorem WX_2 {d : Nat} {op kd ad n vk vi : Int} {nm fd : List UInt8} {x y : GX} (ho : 4 ≤ op ∧ op ≤ 14) (h : WX d x) (h2 : WX d y) : WX (d + 1) (.mk op kd nm fd ad n vk vi 0 [x, y]) :=
 ⟨.inr (.inr ⟨ho, rfl⟩), .inl rfl, ⟨fun h => by omega, fun h => by omega, fun h => by omega, fun h => by omega⟩, fun a ha => by rcases List.mem_cons.1 ha with rfl | ha; exact h; cases List.mem_singleton.1 ha; exact h2⟩
theorem callF' {P : Program} {Q : AV → Prop} {L : List (Nat → List AV → Prop)} {Y : Sy} {f : FuncId} {ft : FT} {hv vs : List AV} {n : Nat} {bs : VTs} {R : Nat → List AV → Prop} (h1 : CF P f ft vs R) (h0 : denL Y.v hv = vs) (h2 : okL vs = true) (h3 : VOKb P Q R L (Y.puts n vs) (Nat.add n ft.ent.nv) 0 bs) : VOK P Q L Y (.callF f ft hv n bs) := by
 subst h0; exact VOK_callF h1 h2 h3
theorem okP {a : AV} (h : okC a = true) {n m : Int} : okL [a, .int .i64 n, .int .i64 m] = true := by simp only [okL, okC, h]
theorem okQ {a : AV} (h : okC a = true) {n m k : Int} : okL [a, .int .i64 n, .int .i64 m, .int .i64 k] = true := by simp only [okL, okC, h]
theorem okXn (x : GX) (n : Int) : okL (encX x ++ [.int .i64 n]) = true := encL_ok.okL_join (okX x) rfl
theorem finX {l : List UInt8} {d n j : Nat} {x : GX} {hv : List AV} {Y : Sy} {L : List (Nat → List AV → Prop)} (h : denL Y.v hv = encX x ++ [.int .i64 (n : Int)]) (hw : WX (d + 1) x) (hn : n ≤ l.length) : VOK Try.prog (QF (RX l d)) L Y (.done (.tup (.int .i64 (.ofNat j) :: hv))) :=
 VOK_fin (by rw [h]; exact okXn x n) ⟨x, n, h, hw, hn⟩
def c83 : VC := ⟨⟨[], []⟩, [], [], 1, true, [(64, ft64), (81, ft81)]⟩
def t83 : VT :=
 (.callF 64 ft64 [.sym 64, .sym 65, .int .i64 4] 68
 (.cons 2
 (.lt (.bin .eql 3 false true) [.sym 66, .int .i64 1] 73 none
 (.ite 73
 (.callF 64 ft64 [.sym 64, .sym 72, .int .i64 2] 74
 (.cons 2
 (.lt (.iaddr 38) [.vsl 4 10 [.int .i64 2, .int .i64 0, .str [98], .str [], .int .i64 0, .int .i64 0, .int .i64 0, .int .i64 0, .flt .f64 0, .nsl, .int .i64 2, .int .i64 0, .str [113], .str [], .int .i64 0, .int .i64 0, .int .i64 0, .int .i64 0, .flt .f64 0, .nsl, .int .i64 2, .int .i64 0, .str [116, 109], .str [113], .int .i64 0, .int .i64 0, .int .i64 0, .int .i64 0, .flt .f64 0, .nsl, .int .i64 1, .int .i64 0, .str [], .str [], .int .i64 0, .int .i64 0, .int .i64 1, .sym 77, .flt .f64 0, .nsl], .sym 71] 79 none
 (.lt (.load 40) [.sym 79] 80 (some 10)
 (.done (.tup [.int .i64 0, .sym 80, .sym 81, .sym 82, .sym 83, .sym 84, .sym 85, .sym 86, .sym 87, .sym 88, .sym 89, .sym 78]))))
 .nil))
 (.lt (.bin .eql 3 false true) [.sym 66, .int .i64 2] 74 none
 (.ite 74
 (.lt (.bin .eql 3 false true) [.sym 71, .int .i64 0] 75 none
 (.ite 75
 (.lt (.bin .gtr 3 false true) [.sym 67, .int .i64 1] 76 none
 (.ite 76
 (.lt (.bin .sub 3 false true) [.sym 67, .int .i64 1] 77 none
 (.callF 81 ft81 [.sym 64, .sym 72, .int .i64 2, .sym 77] 78
 (.cons 11
 (.done (.tup [.int .i64 0, .int .i64 3, .int .i64 0, .str [107], .str [], .int .i64 0, .int .i64 0, .int .i64 0, .int .i64 0, .flt .f64 0, .vsl 1 10 [.sym 82, .sym 83, .sym 84, .sym 85, .sym 86, .sym 87, .sym 88, .sym 89, .sym 90, .sym 91], .sym 92]))
 .nil)))
 (.lt (.bin .lss 3 false true) [.sym 71, .int .i64 2] 77 none
 (.ite 77
 (.callF 64 ft64 [.sym 64, .sym 72, .int .i64 7] 78
 (.cons 2
 (.done (.tup [.int .i64 0, .int .i64 17, .int .i64 2, .str [], .str [], .int .i64 0, .int .i64 0, .int .i64 0, .int .i64 0, .flt .f64 0, .vsl 1 10 [.int .i64 1, .int .i64 0, .str [], .str [], .int .i64 0, .int .i64 0, .int .i64 3, .sym 81, .flt .f64 0, .nsl], .sym 82]))
 .nil))
 (.callF 64 ft64 [.sym 64, .sym 72, .int .i64 4] 78
 (.cons 2
 (.lt (.iaddr 38) [.vsl 4 10 [.int .i64 2, .int .i64 0, .str [97], .str [], .int .i64 0, .int .i64 0, .int .i64 0, .int .i64 0, .flt .f64 0, .nsl, .int .i64 2, .int .i64 0, .str [120], .str [], .int .i64 0, .int .i64 0, .int .i64 0, .int .i64 0, .flt .f64 0, .nsl, .int .i64 2, .int .i64 0, .str [111], .str [], .int .i64 0, .int .i64 0, .int .i64 0, .int .i64 0, .flt .f64 0, .nsl, .int .i64 2, .int .i64 0, .str [99], .str [99, 118], .int .i64 0, .int .i64 0, .int .i64 0, .int .i64 0, .flt .f64 0, .nsl], .sym 81] 83 none
 (.lt (.load 40) [.sym 83] 84 (some 10)
 (.done (.tup [.int .i64 0, .sym 84, .sym 85, .sym 86, .sym 87, .sym 88, .sym 89, .sym 90, .sym 91, .sym 92, .sym 93, .sym 82]))))
 .nil))))))
 (.lt (.bin .lss 3 false true) [.sym 71, .int .i64 2] 76 none
 (.ite 76
 (.callF 64 ft64 [.sym 64, .sym 72, .int .i64 7] 77
 (.cons 2
 (.done (.tup [.int .i64 0, .int .i64 17, .int .i64 2, .str [], .str [], .int .i64 0, .int .i64 0, .int .i64 0, .int .i64 0, .flt .f64 0, .vsl 1 10 [.int .i64 1, .int .i64 0, .str [], .str [], .int .i64 0, .int .i64 0, .int .i64 3, .sym 80, .flt .f64 0, .nsl], .sym 81]))
 .nil))
 (.callF 64 ft64 [.sym 64, .sym 72, .int .i64 4] 77
 (.cons 2
 (.lt (.iaddr 38) [.vsl 4 10 [.int .i64 2, .int .i64 0, .str [97], .str [], .int .i64 0, .int .i64 0, .int .i64 0, .int .i64 0, .flt .f64 0, .nsl, .int .i64 2, .int .i64 0, .str [120], .str [], .int .i64 0, .int .i64 0, .int .i64 0, .int .i64 0, .flt .f64 0, .nsl, .int .i64 2, .int .i64 0, .str [111], .str [], .int .i64 0, .int .i64 0, .int .i64 0, .int .i64 0, .flt .f64 0, .nsl, .int .i64 2, .int .i64 0, .str [99], .str [99, 118], .int .i64 0, .int .i64 0, .int .i64 0, .int .i64 0, .flt .f64 0, .nsl], .sym 80] 82 none
 (.lt (.load 40) [.sym 82] 83 (some 10)
 (.done (.tup [.int .i64 0, .sym 83, .sym 84, .sym 85, .sym 86, .sym 87, .sym 88, .sym 89, .sym 90, .sym 91, .sym 92, .sym 81]))))
 .nil))))))
 (.lt (.bin .eql 3 false true) [.sym 66, .int .i64 3] 75 none
 (.ite 75
 (.lt (.bin .lss 3 false true) [.sym 71, .int .i64 2] 76 none
 (.ite 76
 (.callF 64 ft64 [.sym 64, .sym 72, .int .i64 9] 77
 (.cons 2
 (.done (.tup [.int .i64 0, .int .i64 1, .int .i64 0, .str [], .str [], .int .i64 0, .int .i64 0, .int .i64 3, .sym 80, .flt .f64 0, .nsl, .sym 81]))
 .nil))
 (.done (.tup [.int .i64 0, .int .i64 2, .int .i64 0, .str [121], .str [], .int .i64 0, .int .i64 0, .int .i64 0, .int .i64 0, .flt .f64 0, .nsl, .sym 72]))))
 (.lt (.bin .eql 3 false true) [.sym 66, .int .i64 4] 76 none
 (.ite 76
 (.lt (.bin .eql 3 false true) [.sym 71, .int .i64 0] 77 none
 (.ite 77
 (.done (.tup [.int .i64 0, .int .i64 2, .int .i64 0, .str [116, 109], .str [101, 116], .int .i64 0, .int .i64 0, .int .i64 0, .int .i64 0, .flt .f64 0, .nsl, .sym 72]))
 (.lt (.bin .eql 3 false true) [.sym 71, .int .i64 1] 78 none
 (.ite 78
 (.callF 64 ft64 [.sym 64, .sym 72, .int .i64 50] 79
 (.cons 2
 (.done (.tup [.int .i64 0, .int .i64 1, .int .i64 0, .str [], .str [], .int .i64 0, .int .i64 0, .int .i64 4, .sym 82, .flt .f64 0, .nsl, .sym 83]))
 .nil))
 (.done (.tup [.int .i64 0, .int .i64 2, .int .i64 0, .str [119], .str [], .int .i64 0, .int .i64 0, .int .i64 0, .int .i64 0, .flt .f64 0, .nsl, .sym 72]))))))
 (.lt (.bin .lss 3 false true) [.sym 71, .int .i64 2] 77 none
 (.ite 77
 (.callF 64 ft64 [.sym 64, .sym 72, .int .i64 4] 78
 (.cons 2
 (.lt (.iaddr 143) [.vsl 4 1 [.flt .f64 0, .flt .f64 4609434218613702656, .flt .f64 4611686018427387904, .flt .f64 4598175219545276416], .sym 81] 83 none
 (.lt (.load 35) [.sym 83] 84 none
 (.done (.tup [.int .i64 0, .int .i64 1, .int .i64 0, .str [], .str [], .int .i64 0, .int .i64 0, .int .i64 5, .int .i64 0, .sym 84, .nsl, .sym 82]))))
 .nil))
 (.done (.tup [.int .i64 0, .int .i64 2, .int .i64 0, .str [122], .str [], .int .i64 0, .int .i64 0, .int .i64 0, .int .i64 0, .flt .f64 0, .nsl, .sym 72]))))))))))))
 .nil))
def c81 : VC := ⟨⟨[], []⟩, [], [], 1, true, [(64, ft64), (81, ft81), (83, ft83)]⟩
def t81 : VT :=
 (.lt (.bin .leq 3 false true) [.sym 67, .int .i64 1] 68 none
 (.ite 68
 (.callF 83 ft83 [.sym 64, .sym 65, .sym 66, .sym 67] 69
 (.cons 11
 (.done (.tup [.int .i64 0, .sym 73, .sym 74, .sym 75, .sym 76, .sym 77, .sym 78, .sym 79, .sym 80, .sym 81, .sym 82, .sym 83]))
 .nil))
 (.callF 64 ft64 [.sym 64, .sym 65, .int .i64 4] 69
 (.cons 2
 (.lt (.bin .eql 3 false true) [.sym 72, .int .i64 0] 74 none
 (.ite 74
 (.callF 83 ft83 [.sym 64, .sym 73, .sym 66, .sym 67] 75
 (.cons 11
 (.done (.tup [.int .i64 0, .sym 79, .sym 80, .sym 81, .sym 82, .sym 83, .sym 84, .sym 85, .sym 86, .sym 87, .sym 88, .sym 89]))
 .nil))
 (.lt (.bin .eql 3 false true) [.sym 66, .int .i64 1] 75 none
 (.ite 75
 (.callF 64 ft64 [.sym 64, .sym 73, .int .i64 5] 76
 (.cons 2
 (.lt (.bin .eql 3 false true) [.sym 79, .int .i64 0] 81 none
 (.ite 81
 (.lt (.bin .sub 3 false true) [.sym 67, .int .i64 1] 82 none
 (.callF 81 ft81 [.sym 64, .sym 80, .int .i64 1, .sym 82] 83
 (.cons 11
 (.done (.tup [.int .i64 0, .int .i64 15, .int .i64 0, .str [], .str [], .int .i64 0, .int .i64 0, .int .i64 0, .int .i64 0, .flt .f64 0, .vsl 1 10 [.sym 87, .sym 88, .sym 89, .sym 90, .sym 91, .sym 92, .sym 93, .sym 94, .sym 95, .sym 96], .sym 97]))
 .nil)))
 (.lt (.bin .eql 3 false true) [.sym 79, .int .i64 1] 82 none
 (.ite 82
 (.callF 64 ft64 [.sym 64, .sym 80, .int .i64 2] 83
 (.cons 2
 (.lt (.bin .add 3 true false) [.int .i64 13, .sym 86] 88 none
 (.lt (.bin .sub 3 false true) [.sym 67, .int .i64 1] 89 none
 (.callF 81 ft81 [.sym 64, .sym 87, .int .i64 1, .sym 89] 90
 (.cons 11
 (.lt (.bin .sub 3 false true) [.sym 67, .int .i64 1] 105 none
 (.callF 81 ft81 [.sym 64, .sym 104, .int .i64 1, .sym 105] 106
 (.cons 11
 (.done (.tup [.int .i64 0, .sym 88, .int .i64 0, .str [], .str [], .int .i64 0, .int .i64 0, .int .i64 0, .int .i64 0, .flt .f64 0, .vsl 2 10 [.sym 94, .sym 95, .sym 96, .sym 97, .sym 98, .sym 99, .sym 100, .sym 101, .sym 102, .sym 103, .sym 110, .sym 111, .sym 112, .sym 113, .sym 114, .sym 115, .sym 116, .sym 117, .sym 118, .sym 119], .sym 120]))
 .nil)))
 .nil))))
 .nil))
 (.callF 64 ft64 [.sym 64, .sym 80, .int .i64 4] 83
 (.cons 2
 (.lt (.bin .add 3 true false) [.int .i64 2, .sym 86] 88 none
 (.callF 64 ft64 [.sym 64, .sym 87, .int .i64 4] 89
 (.cons 2
 (.lt (.bin .add 3 true false) [.int .i64 9, .sym 92] 94 none
 (.lt (.bin .sub 3 false true) [.sym 67, .int .i64 1] 95 none
 (.callF 81 ft81 [.sym 64, .sym 93, .sym 88, .sym 95] 96
 (.cons 11
 (.lt (.bin .sub 3 false true) [.sym 67, .int .i64 1] 111 none
 (.callF 81 ft81 [.sym 64, .sym 110, .sym 88, .sym 111] 112
 (.cons 11
 (.done (.tup [.int .i64 0, .sym 94, .int .i64 0, .str [], .str [], .int .i64 0, .int .i64 0, .int .i64 0, .int .i64 0, .flt .f64 0, .vsl 2 10 [.sym 100, .sym 101, .sym 102, .sym 103, .sym 104, .sym 105, .sym 106, .sym 107, .sym 108, .sym 109, .sym 116, .sym 117, .sym 118, .sym 119, .sym 120, .sym 121, .sym 122, .sym 123, .sym 124, .sym 125], .sym 126]))
 .nil)))
 .nil))))
 .nil)))
 .nil))))))
 .nil))
 (.callF 64 ft64 [.sym 64, .sym 73, .int .i64 9] 76
 (.cons 2
 (.lt (.bin .eql 3 false true) [.sym 79, .int .i64 0] 81 none
 (.ite 81
 (.lt (.bin .sub 3 false true) [.sym 67, .int .i64 1] 82 none
 (.callF 81 ft81 [.sym 64, .sym 80, .sym 66, .sym 82] 83
 (.cons 11
 (.done (.tup [.int .i64 0, .int .i64 16, .int .i64 0, .str [], .str [], .int .i64 0, .int .i64 0, .int .i64 0, .int .i64 0, .flt .f64 0, .vsl 1 10 [.sym 87, .sym 88, .sym 89, .sym 90, .sym 91, .sym 92, .sym 93, .sym 94, .sym 95, .sym 96], .sym 97]))
 .nil)))
 (.lt (.bin .eql 3 false true) [.sym 79, .int .i64 1] 82 none
 (.ite 82
 (.callF 64 ft64 [.sym 64, .sym 80, .int .i64 4] 83
 (.cons 2
 (.lt (.bin .add 3 true false) [.int .i64 2, .sym 86] 88 none
 (.lt (.bin .sub 3 false true) [.sym 67, .int .i64 1] 89 none
 (.callF 81 ft81 [.sym 64, .sym 87, .sym 88, .sym 89] 90
 (.cons 11
 (.done (.tup [.int .i64 0, .int .i64 17, .sym 66, .str [], .str [], .int .i64 0, .int .i64 0, .int .i64 0, .int .i64 0, .flt .f64 0, .vsl 1 10 [.sym 94, .sym 95, .sym 96, .sym 97, .sym 98, .sym 99, .sym 100, .sym 101, .sym 102, .sym 103], .sym 104]))
 .nil))))
 .nil))
 (.lt (.bin .eql 3 false true) [.sym 79, .int .i64 2] 83 none
 (.ite 83
 (.lt (.bin .neq 3 false true) [.sym 66, .int .i64 5] 84 none
 (.ite 84
 (.lt (.bin .sub 3 false true) [.sym 67, .int .i64 1] 85 none
 (.callF 81 ft81 [.sym 64, .sym 80, .sym 66, .sym 85] 86
 (.cons 11
 (.lt (.bin .sub 3 false true) [.sym 67, .int .i64 1] 101 none
 (.callF 81 ft81 [.sym 64, .sym 100, .sym 66, .sym 101] 102
 (.cons 11
 (.done (.tup [.int .i64 0, .int .i64 8, .int .i64 0, .str [], .str [], .int .i64 0, .int .i64 0, .int .i64 0, .int .i64 0, .flt .f64 0, .vsl 2 10 [.sym 90, .sym 91, .sym 92, .sym 93, .sym 94, .sym 95, .sym 96, .sym 97, .sym 98, .sym 99, .sym 106, .sym 107, .sym 108, .sym 109, .sym 110, .sym 111, .sym 112, .sym 113, .sym 114, .sym 115], .sym 116]))
 .nil)))
 .nil)))
 (.callF 64 ft64 [.sym 64, .sym 80, .int .i64 4] 85
 (.cons 2
 (.lt (.bin .add 3 true false) [.int .i64 4, .sym 88] 90 none
 (.lt (.bin .sub 3 false true) [.sym 67, .int .i64 1] 91 none
 (.callF 81 ft81 [.sym 64, .sym 89, .sym 66, .sym 91] 92
 (.cons 11
 (.lt (.bin .sub 3 false true) [.sym 67, .int .i64 1] 107 none
 (.callF 81 ft81 [.sym 64, .sym 106, .sym 66, .sym 107] 108
 (.cons 11
 (.done (.tup [.int .i64 0, .sym 90, .int .i64 0, .str [], .str [], .int .i64 0, .int .i64 0, .int .i64 0, .int .i64 0, .flt .f64 0, .vsl 2 10 [.sym 96, .sym 97, .sym 98, .sym 99, .sym 100, .sym 101, .sym 102, .sym 103, .sym 104, .sym 105, .sym 112, .sym 113, .sym 114, .sym 115, .sym 116, .sym 117, .sym 118, .sym 119, .sym 120, .sym 121], .sym 122]))
 .nil)))
 .nil))))
 .nil))))
 (.callF 64 ft64 [.sym 64, .sym 80, .int .i64 4] 84
 (.cons 2
 (.lt (.bin .add 3 true false) [.int .i64 4, .sym 87] 89 none
 (.lt (.bin .sub 3 false true) [.sym 67, .int .i64 1] 90 none
 (.callF 81 ft81 [.sym 64, .sym 88, .sym 66, .sym 90] 91
 (.cons 11
 (.lt (.bin .sub 3 false true) [.sym 67, .int .i64 1] 106 none
 (.callF 81 ft81 [.sym 64, .sym 105, .sym 66, .sym 106] 107
 (.cons 11
 (.done (.tup [.int .i64 0, .sym 89, .int .i64 0, .str [], .str [], .int .i64 0, .int .i64 0, .int .i64 0, .int .i64 0, .flt .f64 0, .vsl 2 10 [.sym 95, .sym 96, .sym 97, .sym 98, .sym 99, .sym 100, .sym 101, .sym 102, .sym 103, .sym 104, .sym 111, .sym 112, .sym 113, .sym 114, .sym 115, .sym 116, .sym 117, .sym 118, .sym 119, .sym 120], .sym 121]))
 .nil)))
 .nil))))
 .nil))))))))
 .nil))))))
 .nil))))
theorem p83 {l : List UInt8} {a : AV} (hp : Pk l a) (d : Nat) (hd2 : d ≤ 100) (hX : 1 ≤ d → PX l a 81 d) : PX l a 83 (d + 1) := by
 intro n k hn hk
 have hA := hp.1.ok okC8
 refine cf_tree (c := c83) (n := 300) (t := t83) mo ov rfl (fun Y _ => known0 _) (by kernel_rfl) fun Y hf hg => ?_
 unfold t83
 have f7 : ∀ v : Nat, (v : Int) < 7 → WX (d + 1 + 1) (.mk 17 2 [] [] 0 0 0 0 0 [.mk 1 0 [] [] 0 0 3 (v : Int) 0 []]) := fun v hv => WX_1 (by decide) (WX_lit (by unfold LitOk; omega) (.inl rfl))
 (refine callF' (p64i hp hn (by first | decide | omega) (by first | decide | omega)) rfl (okP hA) ⟨?_, trivial⟩; intro ws hw; rcases hw with ⟨v, n, rfl, hv, hn⟩)
 (first
   | refine VOK_lt (run_eql ..) rfl (VOK_ite rfl (fun h => ?_) (fun h => ?_))
   | refine VOK_lt (run_neq ..) rfl (VOK_ite rfl (fun h => ?_) (fun h => ?_))
   | refine VOK_lt (run_lss ..) rfl (VOK_ite rfl (fun h => ?_) (fun h => ?_))
   | refine VOK_lt (run_leq ..) rfl (VOK_ite rfl (fun h => ?_) (fun h => ?_))
   | refine VOK_lt (run_gtr ..) rfl (VOK_ite rfl (fun h => ?_) (fun h => ?_)))
 ·((have e4 : v = 0 ∨ v = 1 ∨ v = 2 ∨ v = 3 := by omega); rcases e4 with rfl | rfl | rfl | rfl)
  all_goals (refine callF' (p64i hp hn (by first | decide | omega) (by first | decide | omega)) rfl (okP hA) ⟨?_, trivial⟩; intro ws hw; rcases hw with ⟨v, n, rfl, hv, hn⟩); refine VOK_lt rfl rfl (VOK_ltN rfl rfl rfl ?_); (first
                                                                                                                                                                                                                                | exact finX (x := .mk 2 _ _ _ _ _ _ _ _ []) rfl (WX_name (by decide)) hn
                                                                                                                                                                                                                                | exact finX (x := .mk 1 _ _ _ _ _ _ _ _ []) rfl (WX_lit (by unfold LitOk; omega) (by first | exact .inl rfl | exact .inr (.inl rfl) | exact .inr (.inr (.inl rfl)) | exact .inr (.inr (.inr rfl)))) hn)
 (first
   | refine VOK_lt (run_eql ..) rfl (VOK_ite rfl (fun h => ?_) (fun h => ?_))
   | refine VOK_lt (run_neq ..) rfl (VOK_ite rfl (fun h => ?_) (fun h => ?_))
   | refine VOK_lt (run_lss ..) rfl (VOK_ite rfl (fun h => ?_) (fun h => ?_))
   | refine VOK_lt (run_leq ..) rfl (VOK_ite rfl (fun h => ?_) (fun h => ?_))
   | refine VOK_lt (run_gtr ..) rfl (VOK_ite rfl (fun h => ?_) (fun h => ?_)))
 ·(first
     | refine VOK_lt (run_eql ..) rfl (VOK_ite rfl (fun h => ?_) (fun h => ?_))
     | refine VOK_lt (run_neq ..) rfl (VOK_ite rfl (fun h => ?_) (fun h => ?_))
     | refine VOK_lt (run_lss ..) rfl (VOK_ite rfl (fun h => ?_) (fun h => ?_))
     | refine VOK_lt (run_leq ..) rfl (VOK_ite rfl (fun h => ?_) (fun h => ?_))
     | refine VOK_lt (run_gtr ..) rfl (VOK_ite rfl (fun h => ?_) (fun h => ?_)))
  ·(first
      | refine VOK_lt (run_eql ..) rfl (VOK_ite rfl (fun h => ?_) (fun h => ?_))
      | refine VOK_lt (run_neq ..) rfl (VOK_ite rfl (fun h => ?_) (fun h => ?_))
      | refine VOK_lt (run_lss ..) rfl (VOK_ite rfl (fun h => ?_) (fun h => ?_))
      | refine VOK_lt (run_leq ..) rfl (VOK_ite rfl (fun h => ?_) (fun h => ?_))
      | refine VOK_lt (run_gtr ..) rfl (VOK_ite rfl (fun h => ?_) (fun h => ?_)))
   ·have hd1 : 1 ≤ d := by simp at h; omega
    refine VOK_lt (sub_c (z := (d : Int)) (by omega) (by omega) (by omega)) rfl ?_
    (refine callF' ((hX hd1) _ _ hn (by first | decide | (simp only [decide_eq_true_eq, decide_eq_false_iff_not] at *; omega))) rfl (okQ hA) ⟨?_, trivial⟩; intro ws hw; obtain ⟨⟨op, kd, nm, fd, ad, nn, vk, vi, vf, args⟩, n, rfl, hx, hn⟩ := hw)
    (exact finX (x := .mk _ _ _ _ _ _ _ _ _ [.mk _ _ _ _ _ _ _ _ _ _]) rfl (WX_1 (by first | decide | (refine .inr (.inr (.inr ⟨rfl, ?_, ?_⟩)) <;> (simp only [decide_eq_true_eq, decide_eq_false_iff_not] at *; omega))) (by assumption)) hn)
   ·(first
       | refine VOK_lt (run_eql ..) rfl (VOK_ite rfl (fun h => ?_) (fun h => ?_))
       | refine VOK_lt (run_neq ..) rfl (VOK_ite rfl (fun h => ?_) (fun h => ?_))
       | refine VOK_lt (run_lss ..) rfl (VOK_ite rfl (fun h => ?_) (fun h => ?_))
       | refine VOK_lt (run_leq ..) rfl (VOK_ite rfl (fun h => ?_) (fun h => ?_))
       | refine VOK_lt (run_gtr ..) rfl (VOK_ite rfl (fun h => ?_) (fun h => ?_)))
    ·(refine callF' (p64i hp hn (by first | decide | omega) (by first | decide | omega)) rfl (okP hA) ⟨?_, trivial⟩; intro ws hw; rcases hw with ⟨v, n, rfl, hv, hn⟩)
     exact finX (x := .mk _ _ _ _ _ _ _ _ _ [.mk _ _ _ _ _ _ _ _ _ []]) rfl (f7 _ hv) hn
    ·(refine callF' (p64i hp hn (by first | decide | omega) (by first | decide | omega)) rfl (okP hA) ⟨?_, trivial⟩; intro ws hw; rcases hw with ⟨v, n, rfl, hv, hn⟩); ((have e4 : v = 0 ∨ v = 1 ∨ v = 2 ∨ v = 3 := by omega); rcases e4 with rfl | rfl | rfl | rfl)
     all_goals refine VOK_lt rfl rfl (VOK_ltN rfl rfl rfl ?_); (first
                                                                 | exact finX (x := .mk 2 _ _ _ _ _ _ _ _ []) rfl (WX_name (by decide)) hn
                                                                 | exact finX (x := .mk 1 _ _ _ _ _ _ _ _ []) rfl (WX_lit (by unfold LitOk; omega) (by first | exact .inl rfl | exact .inr (.inl rfl) | exact .inr (.inr (.inl rfl)) | exact .inr (.inr (.inr rfl)))) hn)
  ·(first
      | refine VOK_lt (run_eql ..) rfl (VOK_ite rfl (fun h => ?_) (fun h => ?_))
      | refine VOK_lt (run_neq ..) rfl (VOK_ite rfl (fun h => ?_) (fun h => ?_))
      | refine VOK_lt (run_lss ..) rfl (VOK_ite rfl (fun h => ?_) (fun h => ?_))
      | refine VOK_lt (run_leq ..) rfl (VOK_ite rfl (fun h => ?_) (fun h => ?_))
      | refine VOK_lt (run_gtr ..) rfl (VOK_ite rfl (fun h => ?_) (fun h => ?_)))
   ·(refine callF' (p64i hp hn (by first | decide | omega) (by first | decide | omega)) rfl (okP hA) ⟨?_, trivial⟩; intro ws hw; rcases hw with ⟨v, n, rfl, hv, hn⟩)
    exact finX (x := .mk _ _ _ _ _ _ _ _ _ [.mk _ _ _ _ _ _ _ _ _ []]) rfl (f7 _ hv) hn
   ·(refine callF' (p64i hp hn (by first | decide | omega) (by first | decide | omega)) rfl (okP hA) ⟨?_, trivial⟩; intro ws hw; rcases hw with ⟨v, n, rfl, hv, hn⟩); ((have e4 : v = 0 ∨ v = 1 ∨ v = 2 ∨ v = 3 := by omega); rcases e4 with rfl | rfl | rfl | rfl)
    all_goals refine VOK_lt rfl rfl (VOK_ltN rfl rfl rfl ?_); (first
                                                                | exact finX (x := .mk 2 _ _ _ _ _ _ _ _ []) rfl (WX_name (by decide)) hn
                                                                | exact finX (x := .mk 1 _ _ _ _ _ _ _ _ []) rfl (WX_lit (by unfold LitOk; omega) (by first | exact .inl rfl | exact .inr (.inl rfl) | exact .inr (.inr (.inl rfl)) | exact .inr (.inr (.inr rfl)))) hn)
 (first
   | refine VOK_lt (run_eql ..) rfl (VOK_ite rfl (fun h => ?_) (fun h => ?_))
   | refine VOK_lt (run_neq ..) rfl (VOK_ite rfl (fun h => ?_) (fun h => ?_))
   | refine VOK_lt (run_lss ..) rfl (VOK_ite rfl (fun h => ?_) (fun h => ?_))
   | refine VOK_lt (run_leq ..) rfl (VOK_ite rfl (fun h => ?_) (fun h => ?_))
   | refine VOK_lt (run_gtr ..) rfl (VOK_ite rfl (fun h => ?_) (fun h => ?_)))
 ·(first
     | refine VOK_lt (run_eql ..) rfl (VOK_ite rfl (fun h => ?_) (fun h => ?_))
     | refine VOK_lt (run_neq ..) rfl (VOK_ite rfl (fun h => ?_) (fun h => ?_))
     | refine VOK_lt (run_lss ..) rfl (VOK_ite rfl (fun h => ?_) (fun h => ?_))
     | refine VOK_lt (run_leq ..) rfl (VOK_ite rfl (fun h => ?_) (fun h => ?_))
     | refine VOK_lt (run_gtr ..) rfl (VOK_ite rfl (fun h => ?_) (fun h => ?_)))
  ·(refine callF' (p64i hp hn (by first | decide | omega) (by first | decide | omega)) rfl (okP hA) ⟨?_, trivial⟩; intro ws hw; rcases hw with ⟨v, n, rfl, hv, hn⟩); (first
                                                                                                                                                                       | exact finX (x := .mk 2 _ _ _ _ _ _ _ _ []) rfl (WX_name (by decide)) hn
                                                                                                                                                                       | exact finX (x := .mk 1 _ _ _ _ _ _ _ _ []) rfl (WX_lit (by unfold LitOk; omega) (by first | exact .inl rfl | exact .inr (.inl rfl) | exact .inr (.inr (.inl rfl)) | exact .inr (.inr (.inr rfl)))) hn)
  ·(first
     | exact finX (x := .mk 2 _ _ _ _ _ _ _ _ []) rfl (WX_name (by decide)) hn
     | exact finX (x := .mk 1 _ _ _ _ _ _ _ _ []) rfl (WX_lit (by unfold LitOk; omega) (by first | exact .inl rfl | exact .inr (.inl rfl) | exact .inr (.inr (.inl rfl)) | exact .inr (.inr (.inr rfl)))) hn)
 (first
   | refine VOK_lt (run_eql ..) rfl (VOK_ite rfl (fun h => ?_) (fun h => ?_))
   | refine VOK_lt (run_neq ..) rfl (VOK_ite rfl (fun h => ?_) (fun h => ?_))
   | refine VOK_lt (run_lss ..) rfl (VOK_ite rfl (fun h => ?_) (fun h => ?_))
   | refine VOK_lt (run_leq ..) rfl (VOK_ite rfl (fun h => ?_) (fun h => ?_))
   | refine VOK_lt (run_gtr ..) rfl (VOK_ite rfl (fun h => ?_) (fun h => ?_)))
 ·(first
     | refine VOK_lt (run_eql ..) rfl (VOK_ite rfl (fun h => ?_) (fun h => ?_))
     | refine VOK_lt (run_neq ..) rfl (VOK_ite rfl (fun h => ?_) (fun h => ?_))
     | refine VOK_lt (run_lss ..) rfl (VOK_ite rfl (fun h => ?_) (fun h => ?_))
     | refine VOK_lt (run_leq ..) rfl (VOK_ite rfl (fun h => ?_) (fun h => ?_))
     | refine VOK_lt (run_gtr ..) rfl (VOK_ite rfl (fun h => ?_) (fun h => ?_)))
  ·(first
     | exact finX (x := .mk 2 _ _ _ _ _ _ _ _ []) rfl (WX_name (by decide)) hn
     | exact finX (x := .mk 1 _ _ _ _ _ _ _ _ []) rfl (WX_lit (by unfold LitOk; omega) (by first | exact .inl rfl | exact .inr (.inl rfl) | exact .inr (.inr (.inl rfl)) | exact .inr (.inr (.inr rfl)))) hn)
  ·(first
      | refine VOK_lt (run_eql ..) rfl (VOK_ite rfl (fun h => ?_) (fun h => ?_))
      | refine VOK_lt (run_neq ..) rfl (VOK_ite rfl (fun h => ?_) (fun h => ?_))
      | refine VOK_lt (run_lss ..) rfl (VOK_ite rfl (fun h => ?_) (fun h => ?_))
      | refine VOK_lt (run_leq ..) rfl (VOK_ite rfl (fun h => ?_) (fun h => ?_))
      | refine VOK_lt (run_gtr ..) rfl (VOK_ite rfl (fun h => ?_) (fun h => ?_)))
   ·(refine callF' (p64i hp hn (by first | decide | omega) (by first | decide | omega)) rfl (okP hA) ⟨?_, trivial⟩; intro ws hw; rcases hw with ⟨v, n, rfl, hv, hn⟩); (first
                                                                                                                                                                        | exact finX (x := .mk 2 _ _ _ _ _ _ _ _ []) rfl (WX_name (by decide)) hn
                                                                                                                                                                        | exact finX (x := .mk 1 _ _ _ _ _ _ _ _ []) rfl (WX_lit (by unfold LitOk; omega) (by first | exact .inl rfl | exact .inr (.inl rfl) | exact .inr (.inr (.inl rfl)) | exact .inr (.inr (.inr rfl)))) hn)
   ·(first
      | exact finX (x := .mk 2 _ _ _ _ _ _ _ _ []) rfl (WX_name (by decide)) hn
      | exact finX (x := .mk 1 _ _ _ _ _ _ _ _ []) rfl (WX_lit (by unfold LitOk; omega) (by first | exact .inl rfl | exact .inr (.inl rfl) | exact .inr (.inr (.inl rfl)) | exact .inr (.inr (.inr rfl)))) hn)
 (first
   | refine VOK_lt (run_eql ..) rfl (VOK_ite rfl (fun h => ?_) (fun h => ?_))
   | refine VOK_lt (run_neq ..) rfl (VOK_ite rfl (fun h => ?_) (fun h => ?_))
   | refine VOK_lt (run_lss ..) rfl (VOK_ite rfl (fun h => ?_) (fun h => ?_))
   | refine VOK_lt (run_leq ..) rfl (VOK_ite rfl (fun h => ?_) (fun h => ?_))
   | refine VOK_lt (run_gtr ..) rfl (VOK_ite rfl (fun h => ?_) (fun h => ?_)))
 ·(refine callF' (p64i hp hn (by first | decide | omega) (by first | decide | omega)) rfl (okP hA) ⟨?_, trivial⟩; intro ws hw; rcases hw with ⟨v, n, rfl, hv, hn⟩); ((have e4 : v = 0 ∨ v = 1 ∨ v = 2 ∨ v = 3 := by omega); rcases e4 with rfl | rfl | rfl | rfl)
  all_goals refine VOK_lt rfl rfl (VOK_lt rfl rfl ?_); (first
                                                         | exact finX (x := .mk 2 _ _ _ _ _ _ _ _ []) rfl (WX_name (by decide)) hn
                                                         | exact finX (x := .mk 1 _ _ _ _ _ _ _ _ []) rfl (WX_lit (by unfold LitOk; omega) (by first | exact .inl rfl | exact .inr (.inl rfl) | exact .inr (.inr (.inl rfl)) | exact .inr (.inr (.inr rfl)))) hn)
 ·(first
    | exact finX (x := .mk 2 _ _ _ _ _ _ _ _ []) rfl (WX_name (by decide)) hn
    | exact finX (x := .mk 1 _ _ _ _ _ _ _ _ []) rfl (WX_lit (by unfold LitOk; omega) (by first | exact .inl rfl | exact .inr (.inl rfl) | exact .inr (.inr (.inl rfl)) | exact .inr (.inr (.inr rfl)))) hn)
theorem p81 {l : List UInt8} {a : AV} (hp : Pk l a) (d : Nat) (hd2 : d ≤ 100) (h83 : PX l a 83 (d + 1)) (h81 : 1 ≤ d → PX l a 81 d) : PX l a 81 (d + 1) := by
 intro n k hn hk
 have hA := hp.1.ok okC8
 refine cf_tree (c := c81) (n := 300) (t := t81) mo ov rfl (fun Y _ => known0 _) (by kernel_rfl) fun Y hf hg => ?_
 unfold t81
 (first
   | refine VOK_lt (run_eql ..) rfl (VOK_ite rfl (fun h => ?_) (fun h => ?_))
   | refine VOK_lt (run_neq ..) rfl (VOK_ite rfl (fun h => ?_) (fun h => ?_))
   | refine VOK_lt (run_lss ..) rfl (VOK_ite rfl (fun h => ?_) (fun h => ?_))
   | refine VOK_lt (run_leq ..) rfl (VOK_ite rfl (fun h => ?_) (fun h => ?_))
   | refine VOK_lt (run_gtr ..) rfl (VOK_ite rfl (fun h => ?_) (fun h => ?_)))
 ·(refine callF' (h83 _ _ hn (by first | decide | (simp only [decide_eq_true_eq, decide_eq_false_iff_not] at *; omega))) rfl (okQ hA) ⟨?_, trivial⟩; intro ws hw; obtain ⟨⟨op, kd, nm, fd, ad, nn, vk, vi, vf, args⟩, n, rfl, hx, hn⟩ := hw); exact finX (x := .mk _ _ _ _ _ _ _ _ _ _) rfl hx hn
 have hX := h81 (by simp at h; omega)
 (refine callF' (p64i hp hn (by first | decide | omega) (by first | decide | omega)) rfl (okP hA) ⟨?_, trivial⟩; intro ws hw; rcases hw with ⟨v, n, rfl, hv, hn⟩); (first
                                                                                                                                                                     | refine VOK_lt (run_eql ..) rfl (VOK_ite rfl (fun h => ?_) (fun h => ?_))
                                                                                                                                                                     | refine VOK_lt (run_neq ..) rfl (VOK_ite rfl (fun h => ?_) (fun h => ?_))
                                                                                                                                                                     | refine VOK_lt (run_lss ..) rfl (VOK_ite rfl (fun h => ?_) (fun h => ?_))
                                                                                                                                                                     | refine VOK_lt (run_leq ..) rfl (VOK_ite rfl (fun h => ?_) (fun h => ?_))
                                                                                                                                                                     | refine VOK_lt (run_gtr ..) rfl (VOK_ite rfl (fun h => ?_) (fun h => ?_)))
 ·(refine callF' (h83 _ _ hn (by first | decide | (simp only [decide_eq_true_eq, decide_eq_false_iff_not] at *; omega))) rfl (okQ hA) ⟨?_, trivial⟩; intro ws hw; obtain ⟨⟨op, kd, nm, fd, ad, nn, vk, vi, vf, args⟩, n, rfl, hx, hn⟩ := hw); exact finX (x := .mk _ _ _ _ _ _ _ _ _ _) rfl hx hn
 (first
   | refine VOK_lt (run_eql ..) rfl (VOK_ite rfl (fun h => ?_) (fun h => ?_))
   | refine VOK_lt (run_neq ..) rfl (VOK_ite rfl (fun h => ?_) (fun h => ?_))
   | refine VOK_lt (run_lss ..) rfl (VOK_ite rfl (fun h => ?_) (fun h => ?_))
   | refine VOK_lt (run_leq ..) rfl (VOK_ite rfl (fun h => ?_) (fun h => ?_))
   | refine VOK_lt (run_gtr ..) rfl (VOK_ite rfl (fun h => ?_) (fun h => ?_)))
 ·(refine callF' (p64i hp hn (by first | decide | omega) (by first | decide | omega)) rfl (okP hA) ⟨?_, trivial⟩; intro ws hw; rcases hw with ⟨v, n, rfl, hv, hn⟩); (first
                                                                                                                                                                       | refine VOK_lt (run_eql ..) rfl (VOK_ite rfl (fun h => ?_) (fun h => ?_))
                                                                                                                                                                       | refine VOK_lt (run_neq ..) rfl (VOK_ite rfl (fun h => ?_) (fun h => ?_))
                                                                                                                                                                       | refine VOK_lt (run_lss ..) rfl (VOK_ite rfl (fun h => ?_) (fun h => ?_))
                                                                                                                                                                       | refine VOK_lt (run_leq ..) rfl (VOK_ite rfl (fun h => ?_) (fun h => ?_))
                                                                                                                                                                       | refine VOK_lt (run_gtr ..) rfl (VOK_ite rfl (fun h => ?_) (fun h => ?_)))
  ·(refine VOK_lt (sub_c (z := (d : Int)) (by omega) (by omega) (by omega)) rfl ?_); (refine callF' (hX _ _ hn (by first | decide | (simp only [decide_eq_true_eq, decide_eq_false_iff_not] at *; omega))) rfl (okQ hA) ⟨?_, trivial⟩; intro ws hw; obtain ⟨⟨op, kd, nm, fd, ad, nn, vk, vi, vf, args⟩, n, rfl, hx, hn⟩ := hw); (exact finX (x := .mk _ _ _ _ _ _ _ _ _ [.mk _ _ _ _ _ _ _ _ _ _]) rfl (WX_1 (by first | decide | (refine .inr (.inr (.inr ⟨rfl, ?_, ?_⟩)) <;> (simp only [decide_eq_true_eq, decide_eq_false_iff_not] at *; omega))) (by assumption)) hn)
  (first
    | refine VOK_lt (run_eql ..) rfl (VOK_ite rfl (fun h => ?_) (fun h => ?_))
    | refine VOK_lt (run_neq ..) rfl (VOK_ite rfl (fun h => ?_) (fun h => ?_))
    | refine VOK_lt (run_lss ..) rfl (VOK_ite rfl (fun h => ?_) (fun h => ?_))
    | refine VOK_lt (run_leq ..) rfl (VOK_ite rfl (fun h => ?_) (fun h => ?_))
    | refine VOK_lt (run_gtr ..) rfl (VOK_ite rfl (fun h => ?_) (fun h => ?_)))
  ·(refine callF' (p64i hp hn (by first | decide | omega) (by first | decide | omega)) rfl (okP hA) ⟨?_, trivial⟩; intro ws hw; rcases hw with ⟨v, n, rfl, hv, hn⟩); (refine VOK_lt (add_c (by omega) (by omega)) rfl ?_); (refine VOK_lt (sub_c (z := (d : Int)) (by omega) (by omega) (by omega)) rfl ?_); (refine callF' (hX _ _ hn (by first | decide | (simp only [decide_eq_true_eq, decide_eq_false_iff_not] at *; omega))) rfl (okQ hA) ⟨?_, trivial⟩; intro ws hw; obtain ⟨⟨op, kd, nm, fd, ad, nn, vk, vi, vf, args⟩, n, rfl, hx, hn⟩ := hw); (refine VOK_lt (sub_c (z := (d : Int)) (by omega) (by omega) (by omega)) rfl ?_); (refine callF' (hX _ _ hn (by first | decide | (simp only [decide_eq_true_eq, decide_eq_false_iff_not] at *; omega))) rfl (okQ hA) ⟨?_, trivial⟩; intro ws hw; obtain ⟨⟨op, kd, nm, fd, ad, nn, vk, vi, vf, args⟩, n, rfl, hx, hn⟩ := hw); (exact finX (x := .mk _ _ _ _ _ _ _ _ _ [.mk _ _ _ _ _ _ _ _ _ _, .mk _ _ _ _ _ _ _ _ _ _]) rfl (WX_2 (by omega) (by assumption) (by assumption)) hn)
  ·(refine callF' (p64i hp hn (by first | decide | omega) (by first | decide | omega)) rfl (okP hA) ⟨?_, trivial⟩; intro ws hw; rcases hw with ⟨v, n, rfl, hv, hn⟩); (refine VOK_lt (add_c (by omega) (by omega)) rfl ?_); (refine callF' (p64i hp hn (by first | decide | omega) (by first | decide | omega)) rfl (okP hA) ⟨?_, trivial⟩; intro ws hw; rcases hw with ⟨v, n, rfl, hv, hn⟩); (refine VOK_lt (add_c (by omega) (by omega)) rfl ?_); (refine VOK_lt (sub_c (z := (d : Int)) (by omega) (by omega) (by omega)) rfl ?_); (refine callF' (hX _ _ hn (by first | decide | (simp only [decide_eq_true_eq, decide_eq_false_iff_not] at *; omega))) rfl (okQ hA) ⟨?_, trivial⟩; intro ws hw; obtain ⟨⟨op, kd, nm, fd, ad, nn, vk, vi, vf, args⟩, n, rfl, hx, hn⟩ := hw); (refine VOK_lt (sub_c (z := (d : Int)) (by omega) (by omega) (by omega)) rfl ?_); (refine callF' (hX _ _ hn (by first | decide | (simp only [decide_eq_true_eq, decide_eq_false_iff_not] at *; omega))) rfl (okQ hA) ⟨?_, trivial⟩; intro ws hw; obtain ⟨⟨op, kd, nm, fd, ad, nn, vk, vi, vf, args⟩, n, rfl, hx, hn⟩ := hw); (exact finX (x := .mk _ _ _ _ _ _ _ _ _ [.mk _ _ _ _ _ _ _ _ _ _, .mk _ _ _ _ _ _ _ _ _ _]) rfl (WX_2 (by omega) (by assumption) (by assumption)) hn)
 ·(refine callF' (p64i hp hn (by first | decide | omega) (by first | decide | omega)) rfl (okP hA) ⟨?_, trivial⟩; intro ws hw; rcases hw with ⟨v, n, rfl, hv, hn⟩); (first
                                                                                                                                                                       | refine VOK_lt (run_eql ..) rfl (VOK_ite rfl (fun h => ?_) (fun h => ?_))
                                                                                                                                                                       | refine VOK_lt (run_neq ..) rfl (VOK_ite rfl (fun h => ?_) (fun h => ?_))
                                                                                                                                                                       | refine VOK_lt (run_lss ..) rfl (VOK_ite rfl (fun h => ?_) (fun h => ?_))
                                                                                                                                                                       | refine VOK_lt (run_leq ..) rfl (VOK_ite rfl (fun h => ?_) (fun h => ?_))
                                                                                                                                                                       | refine VOK_lt (run_gtr ..) rfl (VOK_ite rfl (fun h => ?_) (fun h => ?_)))
  ·(refine VOK_lt (sub_c (z := (d : Int)) (by omega) (by omega) (by omega)) rfl ?_); (refine callF' (hX _ _ hn (by first | decide | (simp only [decide_eq_true_eq, decide_eq_false_iff_not] at *; omega))) rfl (okQ hA) ⟨?_, trivial⟩; intro ws hw; obtain ⟨⟨op, kd, nm, fd, ad, nn, vk, vi, vf, args⟩, n, rfl, hx, hn⟩ := hw); (exact finX (x := .mk _ _ _ _ _ _ _ _ _ [.mk _ _ _ _ _ _ _ _ _ _]) rfl (WX_1 (by first | decide | (refine .inr (.inr (.inr ⟨rfl, ?_, ?_⟩)) <;> (simp only [decide_eq_true_eq, decide_eq_false_iff_not] at *; omega))) (by assumption)) hn)
  (first
    | refine VOK_lt (run_eql ..) rfl (VOK_ite rfl (fun h => ?_) (fun h => ?_))
    | refine VOK_lt (run_neq ..) rfl (VOK_ite rfl (fun h => ?_) (fun h => ?_))
    | refine VOK_lt (run_lss ..) rfl (VOK_ite rfl (fun h => ?_) (fun h => ?_))
    | refine VOK_lt (run_leq ..) rfl (VOK_ite rfl (fun h => ?_) (fun h => ?_))
    | refine VOK_lt (run_gtr ..) rfl (VOK_ite rfl (fun h => ?_) (fun h => ?_)))
  ·(refine callF' (p64i hp hn (by first | decide | omega) (by first | decide | omega)) rfl (okP hA) ⟨?_, trivial⟩; intro ws hw; rcases hw with ⟨v, n, rfl, hv, hn⟩); (refine VOK_lt (add_c (by omega) (by omega)) rfl ?_); (refine VOK_lt (sub_c (z := (d : Int)) (by omega) (by omega) (by omega)) rfl ?_); (refine callF' (hX _ _ hn (by first | decide | (simp only [decide_eq_true_eq, decide_eq_false_iff_not] at *; omega))) rfl (okQ hA) ⟨?_, trivial⟩; intro ws hw; obtain ⟨⟨op, kd, nm, fd, ad, nn, vk, vi, vf, args⟩, n, rfl, hx, hn⟩ := hw); (exact finX (x := .mk _ _ _ _ _ _ _ _ _ [.mk _ _ _ _ _ _ _ _ _ _]) rfl (WX_1 (by first | decide | (refine .inr (.inr (.inr ⟨rfl, ?_, ?_⟩)) <;> (simp only [decide_eq_true_eq, decide_eq_false_iff_not] at *; omega))) (by assumption)) hn)
  (first
    | refine VOK_lt (run_eql ..) rfl (VOK_ite rfl (fun h => ?_) (fun h => ?_))
    | refine VOK_lt (run_neq ..) rfl (VOK_ite rfl (fun h => ?_) (fun h => ?_))
    | refine VOK_lt (run_lss ..) rfl (VOK_ite rfl (fun h => ?_) (fun h => ?_))
    | refine VOK_lt (run_leq ..) rfl (VOK_ite rfl (fun h => ?_) (fun h => ?_))
    | refine VOK_lt (run_gtr ..) rfl (VOK_ite rfl (fun h => ?_) (fun h => ?_)))
  ·(first
      | refine VOK_lt (run_eql ..) rfl (VOK_ite rfl (fun h => ?_) (fun h => ?_))
      | refine VOK_lt (run_neq ..) rfl (VOK_ite rfl (fun h => ?_) (fun h => ?_))
      | refine VOK_lt (run_lss ..) rfl (VOK_ite rfl (fun h => ?_) (fun h => ?_))
      | refine VOK_lt (run_leq ..) rfl (VOK_ite rfl (fun h => ?_) (fun h => ?_))
      | refine VOK_lt (run_gtr ..) rfl (VOK_ite rfl (fun h => ?_) (fun h => ?_)))
   ·(refine VOK_lt (sub_c (z := (d : Int)) (by omega) (by omega) (by omega)) rfl ?_); (refine callF' (hX _ _ hn (by first | decide | (simp only [decide_eq_true_eq, decide_eq_false_iff_not] at *; omega))) rfl (okQ hA) ⟨?_, trivial⟩; intro ws hw; obtain ⟨⟨op, kd, nm, fd, ad, nn, vk, vi, vf, args⟩, n, rfl, hx, hn⟩ := hw); (refine VOK_lt (sub_c (z := (d : Int)) (by omega) (by omega) (by omega)) rfl ?_); (refine callF' (hX _ _ hn (by first | decide | (simp only [decide_eq_true_eq, decide_eq_false_iff_not] at *; omega))) rfl (okQ hA) ⟨?_, trivial⟩; intro ws hw; obtain ⟨⟨op, kd, nm, fd, ad, nn, vk, vi, vf, args⟩, n, rfl, hx, hn⟩ := hw); (exact finX (x := .mk _ _ _ _ _ _ _ _ _ [.mk _ _ _ _ _ _ _ _ _ _, .mk _ _ _ _ _ _ _ _ _ _]) rfl (WX_2 (by omega) (by assumption) (by assumption)) hn)
   ·(refine callF' (p64i hp hn (by first | decide | omega) (by first | decide | omega)) rfl (okP hA) ⟨?_, trivial⟩; intro ws hw; rcases hw with ⟨v, n, rfl, hv, hn⟩); (refine VOK_lt (add_c (by omega) (by omega)) rfl ?_); (refine VOK_lt (sub_c (z := (d : Int)) (by omega) (by omega) (by omega)) rfl ?_); (refine callF' (hX _ _ hn (by first | decide | (simp only [decide_eq_true_eq, decide_eq_false_iff_not] at *; omega))) rfl (okQ hA) ⟨?_, trivial⟩; intro ws hw; obtain ⟨⟨op, kd, nm, fd, ad, nn, vk, vi, vf, args⟩, n, rfl, hx, hn⟩ := hw); (refine VOK_lt (sub_c (z := (d : Int)) (by omega) (by omega) (by omega)) rfl ?_); (refine callF' (hX _ _ hn (by first | decide | (simp only [decide_eq_true_eq, decide_eq_false_iff_not] at *; omega))) rfl (okQ hA) ⟨?_, trivial⟩; intro ws hw; obtain ⟨⟨op, kd, nm, fd, ad, nn, vk, vi, vf, args⟩, n, rfl, hx, hn⟩ := hw); (exact finX (x := .mk _ _ _ _ _ _ _ _ _ [.mk _ _ _ _ _ _ _ _ _ _, .mk _ _ _ _ _ _ _ _ _ _]) rfl (WX_2 (by omega) (by assumption) (by assumption)) hn)
  ·(refine callF' (p64i hp hn (by first | decide | omega) (by first | decide | omega)) rfl (okP hA) ⟨?_, trivial⟩; intro ws hw; rcases hw with ⟨v, n, rfl, hv, hn⟩); (refine VOK_lt (add_c (by omega) (by omega)) rfl ?_); (refine VOK_lt (sub_c (z := (d : Int)) (by omega) (by omega) (by omega)) rfl ?_); (refine callF' (hX _ _ hn (by first | decide | (simp only [decide_eq_true_eq, decide_eq_false_iff_not] at *; omega))) rfl (okQ hA) ⟨?_, trivial⟩; intro ws hw; obtain ⟨⟨op, kd, nm, fd, ad, nn, vk, vi, vf, args⟩, n, rfl, hx, hn⟩ := hw); (refine VOK_lt (sub_c (z := (d : Int)) (by omega) (by omega) (by omega)) rfl ?_); (refine callF' (hX _ _ hn (by first | decide | (simp only [decide_eq_true_eq, decide_eq_false_iff_not] at *; omega))) rfl (okQ hA) ⟨?_, trivial⟩; intro ws hw; obtain ⟨⟨op, kd, nm, fd, ad, nn, vk, vi, vf, args⟩, n, rfl, hx, hn⟩ := hw); (exact finX (x := .mk _ _ _ _ _ _ _ _ _ [.mk _ _ _ _ _ _ _ _ _ _, .mk _ _ _ _ _ _ _ _ _ _]) rfl (WX_2 (by omega) (by assumption) (by assumption)) hn)
theorem pX {l : List UInt8} {a : AV} (hp : Pk l a) : ∀ d : Nat, d ≤ 100 → PX l a 83 (d + 1) ∧ PX l a 81 (d + 1)
 | 0, h => by
   have h1 := p83 hp 0 h (fun h => by omega)
   exact ⟨h1, p81 hp 0 h h1 (fun h => by omega)⟩
 | d + 1, h => by
   have ih := pX hp d (by omega)
   have h1 := p83 hp (d + 1) h (fun _ => ih.2)
   exact ⟨h1, p81 hp (d + 1) h h1 (fun _ => ih.2)⟩
end Go.Proofs.Ytjconanknjgpnaa.vars
set_option maxRecDepth 100000
set_option linter.unusedVariables false
set_option linter.unusedSimpArgs false
namespace Go.Proofs.Ytjconanknjgpnaa.vars
open Go Go.Sx
def RS (l : List UInt8) (d : Nat) : Nat → List AV → Prop := fun _ ws => ∃ (x : GS) (n : Nat), ws = encS x ++ [.int .i64 (n : Int)] ∧ WS d x ∧ n ≤ l.length
def RB (l : List UInt8) (d m : Nat) : Nat → List AV → Prop := fun _ ws => ∃ (x : List GS) (n : Nat), ws = [encB x, .int .i64 (n : Int)] ∧ (x.length ≤ m ∧ ∀ s ∈ x, WS d s) ∧ n ≤ l.length
def PS (l : List UInt8) (a : AV) (d : Nat) : Prop := ∀ n : Nat, n ≤ l.length → CF Try.prog 65 ft65 [a, .int .i64 (n : Int), .int .i64 (d : Int)] (RS l (d + 1))
def PB (l : List UInt8) (a : AV) (d : Nat) : Prop := ∀ (n m : Nat), n ≤ l.length → 1 ≤ m → m ≤ 10 → CF Try.prog 38 ft38 [a, .int .i64 (n : Int), .int .i64 (m : Int), .int .i64 (d : Int)] (RB l (d + 1) m)
theorem okSn (x : GS) (n : Int) : okL (encS x ++ [.int .i64 n]) = true := encL_ok.okL_join (okS x) rfl
theorem finS {l : List UInt8} {d n j : Nat} {x : GS} {hv : List AV} {Y : Sy} {L : List (Nat → List AV → Prop)} (h : denL Y.v hv = encS x ++ [.int .i64 (n : Int)]) (hw : WS d x) (hn : n ≤ l.length) : VOK Try.prog (QF (RS l d)) L Y (.done (.tup (.int .i64 (.ofNat j) :: hv))) :=
 VOK_fin (by rw [h]; exact okSn x n) ⟨x, n, h, hw, hn⟩
theorem WS_set {d : Nat} {to e : GX} (h1 : WX 5 to) (h2 : to.op = 2 ∨ to.op = 3) (h3 : WX 5 e) : WS (d + 1) (.mk 1 to e [] [] [] 0 0 []) := .inl ⟨rfl, h1, h2, h3⟩
theorem WS_call {d : Nat} {to e : GX} {nm : List UInt8} {kd ad : Int} {args : List GX} (h0 : nm = [116, 109] ∨ nm = [99] ∨ nm = [101]) (h1 : args.length ≤ 2) (h2 : ∀ a ∈ args, WX 5 a) : WS (d + 1) (.mk 4 to e [] [] nm kd ad args) := .inr (.inr ⟨rfl, h0, h1, h2⟩)
theorem WS_if {d : Nat} {op : Int} {to e : GX} {thn els : List GS} {nm : List UInt8} {kd ad : Int} {args : List GX} (h1 : op = 2 ∨ op = 3) (h : WX 5 e) (h2 : thn.length ≤ 5) (h3 : els.length ≤ 5) (h4 : ∀ s ∈ thn, WS d s) (h5 : ∀ s ∈ els, WS d s) : WS (d + 1) (.mk op to e thn els nm kd ad args) := .inr (.inl ⟨h1, h, h2, h3, h4, h5⟩)
theorem all1 {x : GX} (h : WX 5 x) : ∀ a ∈ [x], WX 5 a := fun a ha => by cases List.mem_singleton.1 ha; exact h
theorem all2 {x y : GX} (h : WX 5 x) (h2 : WX 5 y) : ∀ a ∈ [x, y], WX 5 a := fun a ha => by rcases List.mem_cons.1 ha with rfl | ha; exact h; exact all1 h2 a ha
theorem mk_name {s : List UInt8} (h : (s, []) ∈ loads) : WX 5 (.mk 2 0 s [] 0 0 0 0 0 []) := WX_name h
def c82 : VC := ⟨⟨[], []⟩, [], [], 0, true, []⟩
def t82 : VT :=
 (.done (.agg [.int .i64 2, .int .i64 0, .sym 64, .str [], .int .i64 0, .int .i64 0, .int .i64 0, .int .i64 0, .flt .f64 0, .nsl]))
def c84 : VC := ⟨⟨[], []⟩, [], [], 0, true, []⟩
def t84 : VT :=
 (.done (.agg [.int .i64 1, .int .i64 0, .str [], .str [], .int .i64 0, .int .i64 0, .sym 64, .sym 65, .sym 66, .nsl]))
theorem p82 (s : List UInt8) : Pure Try.prog 82 [.str s] (.agg (encX (.mk 2 0 s [] 0 0 0 0 0 []))) := by
 refine pure_shape (sh := [none]) (ls := [.str s]) (c := c82) (n := 300) (t := t82) mo ov rfl rfl rfl (fun Y _ => known0 _) rfl (by kernel_rfl) fun Y hf hg => ?_
 unfold t82
 exact VOK_done rfl
theorem p84 : Pure Try.prog 84 [.agg [.int .i64 3, .int .i64 1, .flt .f64 0]] (.agg (encX (.mk 1 0 [] [] 0 0 3 1 0 []))) := by
 refine pure_shape (sh := [some 3]) (ls := [.int .i64 3, .int .i64 1, .flt .f64 0]) (c := c84) (n := 300) (t := t84) mo ov rfl rfl rfl (fun Y _ => known0 _) rfl (by kernel_rfl) fun Y hf hg => ?_
 unfold t84
 exact VOK_done rfl
def c65 : VC := ⟨⟨[], []⟩, [(82, [(some 10)]), (84, [(some 10)])], [], 1, true, [(64, ft64), (81, ft81), (83, ft83), (38, ft38)]⟩
def t65 : VT :=
 (.callF 64 ft64 [.sym 64, .sym 65, .int .i64 12] 67
 (.cons 2
 (.lt (.bin .eql 3 false true) [.sym 70, .int .i64 0] 72 none
 (.ite 72
 (.lt (.bin .gtr 3 false true) [.sym 66, .int .i64 0] 73 none
 (.ite 73
 (.callF 81 ft81 [.sym 64, .sym 71, .int .i64 1, .int .i64 3] 74
 (.cons 11
 (.lt (.bin .sub 3 false true) [.sym 66, .int .i64 1] 89 none
 (.callF 38 ft38 [.sym 64, .sym 88, .int .i64 2, .sym 89] 90
 (.cons 2
 (.callF 64 ft64 [.sym 64, .sym 95, .int .i64 2] 96
 (.cons 2
 (.lt (.bin .eql 3 false true) [.sym 99, .int .i64 0] 101 none
 (.ite 101
 (.lt (.bin .sub 3 false true) [.sym 66, .int .i64 1] 102 none
 (.callF 38 ft38 [.sym 64, .sym 100, .int .i64 2, .sym 102] 103
 (.cons 2
 (.done (.tup [.int .i64 0, .int .i64 2, .int .i64 0, .int .i64 0, .str [], .str [], .int .i64 0, .int .i64 0, .int .i64 0, .int .i64 0, .flt .f64 0, .nsl, .sym 78, .sym 79, .sym 80, .sym 81, .sym 82, .sym 83, .sym 84, .sym 85, .sym 86, .sym 87, .sym 94, .sym 107, .str [], .int .i64 0, .int .i64 0, .nsl, .sym 108]))
 .nil)))
 (.done (.tup [.int .i64 0, .int .i64 2, .int .i64 0, .int .i64 0, .str [], .str [], .int .i64 0, .int .i64 0, .int .i64 0, .int .i64 0, .flt .f64 0, .nsl, .sym 78, .sym 79, .sym 80, .sym 81, .sym 82, .sym 83, .sym 84, .sym 85, .sym 86, .sym 87, .sym 94, .nsl, .str [], .int .i64 0, .int .i64 0, .nsl, .sym 100]))))
 .nil))
 .nil)))
 .nil))
 (.lt (.bin .eql 3 false true) [.sym 70, .int .i64 1] 74 none
 (.ite 74
 (.lt (.bin .gtr 3 false true) [.sym 66, .int .i64 0] 75 none
 (.ite 75
 (.call 82 [.str [120]] 76 [(some 10)]
 (.callF 83 ft83 [.sym 64, .sym 71, .int .i64 2, .int .i64 1] 86
 (.cons 11
 (.lt (.bin .sub 3 false true) [.sym 66, .int .i64 1] 101 none
 (.callF 38 ft38 [.sym 64, .sym 100, .int .i64 1, .sym 101] 102
 (.cons 2
 (.call 82 [.str [120]] 108 [(some 10)]
 (.call 82 [.str [120]] 118 [(some 10)]
 (.call 84 [.agg [.int .i64 3, .int .i64 1, .flt .f64 0]] 128 [(some 10)]
 (.lt (.app 27 336) [.sym 106, .agg [.int .i64 1, .sym 108, .sym 109, .sym 110, .sym 111, .sym 112, .sym 113, .sym 114, .sym 115, .sym 116, .sym 117, .int .i64 4, .int .i64 0, .str [], .str [], .int .i64 0, .int .i64 0, .int .i64 0, .int .i64 0, .flt .f64 0, .vsl 2 10 [.sym 118, .sym 119, .sym 120, .sym 121, .sym 122, .sym 123, .sym 124, .sym 125, .sym 126, .sym 127, .sym 128, .sym 129, .sym 130, .sym 131, .sym 132, .sym 133, .sym 134, .sym 135, .sym 136, .sym 137], .nsl, .nsl, .str [], .int .i64 0, .int .i64 0, .nsl]] 138 none
 (.done (.tup [.int .i64 0, .int .i64 3, .int .i64 0, .int .i64 0, .str [], .str [], .int .i64 0, .int .i64 0, .int .i64 0, .int .i64 0, .flt .f64 0, .nsl, .int .i64 11, .int .i64 0, .str [], .str [], .int .i64 0, .int .i64 0, .int .i64 0, .int .i64 0, .flt .f64 0, .vsl 2 10 [.sym 76, .sym 77, .sym 78, .sym 79, .sym 80, .sym 81, .sym 82, .sym 83, .sym 84, .sym 85, .sym 90, .sym 91, .sym 92, .sym 93, .sym 94, .sym 95, .sym 96, .sym 97, .sym 98, .sym 99], .sym 138, .nsl, .str [], .int .i64 0, .int .i64 0, .nsl, .sym 107]))))))
 .nil)))
 .nil)))
 (.lt (.bin .eql 3 false true) [.sym 70, .int .i64 2] 76 none
 (.ite 76
 (.callF 81 ft81 [.sym 64, .sym 71, .int .i64 1, .int .i64 2] 77
 (.cons 11
 (.callF 81 ft81 [.sym 64, .sym 91, .int .i64 4, .int .i64 2] 92
 (.cons 11
 (.done (.tup [.int .i64 0, .int .i64 4, .int .i64 0, .int .i64 0, .str [], .str [], .int .i64 0, .int .i64 0, .int .i64 0, .int .i64 0, .flt .f64 0, .nsl, .int .i64 0, .int .i64 0, .str [], .str [], .int .i64 0, .int .i64 0, .int .i64 0, .int .i64 0, .flt .f64 0, .nsl, .nsl, .nsl, .str [116, 109], .int .i64 0, .int .i64 0, .vsl 2 10 [.sym 81, .sym 82, .sym 83, .sym 84, .sym 85, .sym 86, .sym 87, .sym 88, .sym 89, .sym 90, .sym 96, .sym 97, .sym 98, .sym 99, .sym 100, .sym 101, .sym 102, .sym 103, .sym 104, .sym 105], .sym 106]))
 .nil))
 .nil))
 (.lt (.bin .eql 3 false true) [.sym 70, .int .i64 3] 77 none
 (.ite 77
 (.callF 81 ft81 [.sym 64, .sym 71, .int .i64 1, .int .i64 2] 78
 (.cons 11
 (.callF 83 ft83 [.sym 64, .sym 92, .int .i64 2, .int .i64 1] 93
 (.cons 11
 (.done (.tup [.int .i64 0, .int .i64 4, .int .i64 0, .int .i64 0, .str [], .str [], .int .i64 0, .int .i64 0, .int .i64 0, .int .i64 0, .flt .f64 0, .nsl, .int .i64 0, .int .i64 0, .str [], .str [], .int .i64 0, .int .i64 0, .int .i64 0, .int .i64 0, .flt .f64 0, .nsl, .nsl, .nsl, .str [99], .int .i64 0, .int .i64 0, .vsl 2 10 [.sym 82, .sym 83, .sym 84, .sym 85, .sym 86, .sym 87, .sym 88, .sym 89, .sym 90, .sym 91, .sym 97, .sym 98, .sym 99, .sym 100, .sym 101, .sym 102, .sym 103, .sym 104, .sym 105, .sym 106], .sym 107]))
 .nil))
 .nil))
 (.lt (.bin .eql 3 false true) [.sym 70, .int .i64 4] 78 none
 (.ite 78
 (.callF 81 ft81 [.sym 64, .sym 71, .int .i64 1, .int .i64 2] 79
 (.cons 11
 (.done (.tup [.int .i64 0, .int .i64 4, .int .i64 0, .int .i64 0, .str [], .str [], .int .i64 0, .int .i64 0, .int .i64 0, .int .i64 0, .flt .f64 0, .nsl, .int .i64 0, .int .i64 0, .str [], .str [], .int .i64 0, .int .i64 0, .int .i64 0, .int .i64 0, .flt .f64 0, .nsl, .nsl, .nsl, .str [101], .int .i64 0, .int .i64 0, .vsl 1 10 [.sym 83, .sym 84, .sym 85, .sym 86, .sym 87, .sym 88, .sym 89, .sym 90, .sym 91, .sym 92], .sym 93]))
 .nil))
 (.lt (.bin .eql 3 false true) [.sym 70, .int .i64 5] 79 none
 (.ite 79
 (.callF 81 ft81 [.sym 64, .sym 71, .int .i64 2, .int .i64 2] 80
 (.cons 11
 (.callF 81 ft81 [.sym 64, .sym 94, .int .i64 2, .int .i64 3] 95
 (.cons 11
 (.done (.tup [.int .i64 0, .int .i64 1, .int .i64 3, .int .i64 0, .str [107], .str [], .int .i64 0, .int .i64 0, .int .i64 0, .int .i64 0, .flt .f64 0, .vsl 1 10 [.sym 84, .sym 85, .sym 86, .sym 87, .sym 88, .sym 89, .sym 90, .sym 91, .sym 92, .sym 93], .sym 99, .sym 100, .sym 101, .sym 102, .sym 103, .sym 104, .sym 105, .sym 106, .sym 107, .sym 108, .nsl, .nsl, .str [], .int .i64 0, .int .i64 0, .nsl, .sym 109]))
 .nil))
 .nil))
 (.callF 64 ft64 [.sym 64, .sym 71, .int .i64 6] 80
 (.cons 2
 (.lt (.iaddr 125) [.vsl 6 1 [.str [111], .str [120], .str [113], .str [121], .str [122], .str [119]], .sym 83] 85 none
 (.lt (.load 9) [.sym 85] 86 none
 (.lt (.mget 135 [(.str [111], .int .i64 2, 0), (.str [120], .int .i64 2, 1), (.str [113], .int .i64 1, 2), (.str [121], .int .i64 3, 3), (.str [122], .int .i64 5, 4), (.str [119], .int .i64 4, 5)]) [.sym 86] 87 none
 (.call 82 [.sym 86] 88 [(some 10)]
 (.callF 81 ft81 [.sym 64, .sym 84, .sym 87, .int .i64 4] 98
 (.cons 11
 (.done (.tup [.int .i64 0, .int .i64 1, .sym 88, .sym 89, .sym 90, .sym 91, .sym 92, .sym 93, .sym 94, .sym 95, .sym 96, .sym 97, .sym 102, .sym 103, .sym 104, .sym 105, .sym 106, .sym 107, .sym 108, .sym 109, .sym 110, .sym 111, .nsl, .nsl, .str [], .int .i64 0, .int .i64 0, .nsl, .sym 112]))
 .nil))))))
 .nil))))))))))))
 (.lt (.bin .eql 3 false true) [.sym 70, .int .i64 2] 75 none
 (.ite 75
 (.callF 81 ft81 [.sym 64, .sym 71, .int .i64 1, .int .i64 2] 76
 (.cons 11
 (.callF 81 ft81 [.sym 64, .sym 90, .int .i64 4, .int .i64 2] 91
 (.cons 11
 (.done (.tup [.int .i64 0, .int .i64 4, .int .i64 0, .int .i64 0, .str [], .str [], .int .i64 0, .int .i64 0, .int .i64 0, .int .i64 0, .flt .f64 0, .nsl, .int .i64 0, .int .i64 0, .str [], .str [], .int .i64 0, .int .i64 0, .int .i64 0, .int .i64 0, .flt .f64 0, .nsl, .nsl, .nsl, .str [116, 109], .int .i64 0, .int .i64 0, .vsl 2 10 [.sym 80, .sym 81, .sym 82, .sym 83, .sym 84, .sym 85, .sym 86, .sym 87, .sym 88, .sym 89, .sym 95, .sym 96, .sym 97, .sym 98, .sym 99, .sym 100, .sym 101, .sym 102, .sym 103, .sym 104], .sym 105]))
 .nil))
 .nil))
 (.lt (.bin .eql 3 false true) [.sym 70, .int .i64 3] 76 none
 (.ite 76
 (.callF 81 ft81 [.sym 64, .sym 71, .int .i64 1, .int .i64 2] 77
 (.cons 11
 (.callF 83 ft83 [.sym 64, .sym 91, .int .i64 2, .int .i64 1] 92
 (.cons 11
 (.done (.tup [.int .i64 0, .int .i64 4, .int .i64 0, .int .i64 0, .str [], .str [], .int .i64 0, .int .i64 0, .int .i64 0, .int .i64 0, .flt .f64 0, .nsl, .int .i64 0, .int .i64 0, .str [], .str [], .int .i64 0, .int .i64 0, .int .i64 0, .int .i64 0, .flt .f64 0, .nsl, .nsl, .nsl, .str [99], .int .i64 0, .int .i64 0, .vsl 2 10 [.sym 81, .sym 82, .sym 83, .sym 84, .sym 85, .sym 86, .sym 87, .sym 88, .sym 89, .sym 90, .sym 96, .sym 97, .sym 98, .sym 99, .sym 100, .sym 101, .sym 102, .sym 103, .sym 104, .sym 105], .sym 106]))
 .nil))
 .nil))
 (.lt (.bin .eql 3 false true) [.sym 70, .int .i64 4] 77 none
 (.ite 77
 (.callF 81 ft81 [.sym 64, .sym 71, .int .i64 1, .int .i64 2] 78
 (.cons 11
 (.done (.tup [.int .i64 0, .int .i64 4, .int .i64 0, .int .i64 0, .str [], .str [], .int .i64 0, .int .i64 0, .int .i64 0, .int .i64 0, .flt .f64 0, .nsl, .int .i64 0, .int .i64 0, .str [], .str [], .int .i64 0, .int .i64 0, .int .i64 0, .int .i64 0, .flt .f64 0, .nsl, .nsl, .nsl, .str [101], .int .i64 0, .int .i64 0, .vsl 1 10 [.sym 82, .sym 83, .sym 84, .sym 85, .sym 86, .sym 87, .sym 88, .sym 89, .sym 90, .sym 91], .sym 92]))
 .nil))
 (.lt (.bin .eql 3 false true) [.sym 70, .int .i64 5] 78 none
 (.ite 78
 (.callF 81 ft81 [.sym 64, .sym 71, .int .i64 2, .int .i64 2] 79
 (.cons 11
 (.callF 81 ft81 [.sym 64, .sym 93, .int .i64 2, .int .i64 3] 94
 (.cons 11
 (.done (.tup [.int .i64 0, .int .i64 1, .int .i64 3, .int .i64 0, .str [107], .str [], .int .i64 0, .int .i64 0, .int .i64 0, .int .i64 0, .flt .f64 0, .vsl 1 10 [.sym 83, .sym 84, .sym 85, .sym 86, .sym 87, .sym 88, .sym 89, .sym 90, .sym 91, .sym 92], .sym 98, .sym 99, .sym 100, .sym 101, .sym 102, .sym 103, .sym 104, .sym 105, .sym 106, .sym 107, .nsl, .nsl, .str [], .int .i64 0, .int .i64 0, .nsl, .sym 108]))
 .nil))
 .nil))
 (.callF 64 ft64 [.sym 64, .sym 71, .int .i64 6] 79
 (.cons 2
 (.lt (.iaddr 125) [.vsl 6 1 [.str [111], .str [120], .str [113], .str [121], .str [122], .str [119]], .sym 82] 84 none
 (.lt (.load 9) [.sym 84] 85 none
 (.lt (.mget 135 [(.str [111], .int .i64 2, 0), (.str [120], .int .i64 2, 1), (.str [113], .int .i64 1, 2), (.str [121], .int .i64 3, 3), (.str [122], .int .i64 5, 4), (.str [119], .int .i64 4, 5)]) [.sym 85] 86 none
 (.call 82 [.sym 85] 87 [(some 10)]
 (.callF 81 ft81 [.sym 64, .sym 83, .sym 86, .int .i64 4] 97
 (.cons 11
 (.done (.tup [.int .i64 0, .int .i64 1, .sym 87, .sym 88, .sym 89, .sym 90, .sym 91, .sym 92, .sym 93, .sym 94, .sym 95, .sym 96, .sym 101, .sym 102, .sym 103, .sym 104, .sym 105, .sym 106, .sym 107, .sym 108, .sym 109, .sym 110, .nsl, .nsl, .str [], .int .i64 0, .int .i64 0, .nsl, .sym 111]))
 .nil))))))
 .nil))))))))))))))
 (.lt (.bin .eql 3 false true) [.sym 70, .int .i64 1] 73 none
 (.ite 73
 (.lt (.bin .gtr 3 false true) [.sym 66, .int .i64 0] 74 none
 (.ite 74
 (.call 82 [.str [120]] 75 [(some 10)]
 (.callF 83 ft83 [.sym 64, .sym 71, .int .i64 2, .int .i64 1] 85
 (.cons 11
 (.lt (.bin .sub 3 false true) [.sym 66, .int .i64 1] 100 none
 (.callF 38 ft38 [.sym 64, .sym 99, .int .i64 1, .sym 100] 101
 (.cons 2
 (.call 82 [.str [120]] 107 [(some 10)]
 (.call 82 [.str [120]] 117 [(some 10)]
 (.call 84 [.agg [.int .i64 3, .int .i64 1, .flt .f64 0]] 127 [(some 10)]
 (.lt (.app 27 336) [.sym 105, .agg [.int .i64 1, .sym 107, .sym 108, .sym 109, .sym 110, .sym 111, .sym 112, .sym 113, .sym 114, .sym 115, .sym 116, .int .i64 4, .int .i64 0, .str [], .str [], .int .i64 0, .int .i64 0, .int .i64 0, .int .i64 0, .flt .f64 0, .vsl 2 10 [.sym 117, .sym 118, .sym 119, .sym 120, .sym 121, .sym 122, .sym 123, .sym 124, .sym 125, .sym 126, .sym 127, .sym 128, .sym 129, .sym 130, .sym 131, .sym 132, .sym 133, .sym 134, .sym 135, .sym 136], .nsl, .nsl, .str [], .int .i64 0, .int .i64 0, .nsl]] 137 none
 (.done (.tup [.int .i64 0, .int .i64 3, .int .i64 0, .int .i64 0, .str [], .str [], .int .i64 0, .int .i64 0, .int .i64 0, .int .i64 0, .flt .f64 0, .nsl, .int .i64 11, .int .i64 0, .str [], .str [], .int .i64 0, .int .i64 0, .int .i64 0, .int .i64 0, .flt .f64 0, .vsl 2 10 [.sym 75, .sym 76, .sym 77, .sym 78, .sym 79, .sym 80, .sym 81, .sym 82, .sym 83, .sym 84, .sym 89, .sym 90, .sym 91, .sym 92, .sym 93, .sym 94, .sym 95, .sym 96, .sym 97, .sym 98], .sym 137, .nsl, .str [], .int .i64 0, .int .i64 0, .nsl, .sym 106]))))))
 .nil)))
 .nil)))
 (.lt (.bin .eql 3 false true) [.sym 70, .int .i64 2] 75 none
 (.ite 75
 (.callF 81 ft81 [.sym 64, .sym 71, .int .i64 1, .int .i64 2] 76
 (.cons 11
 (.callF 81 ft81 [.sym 64, .sym 90, .int .i64 4, .int .i64 2] 91
 (.cons 11
 (.done (.tup [.int .i64 0, .int .i64 4, .int .i64 0, .int .i64 0, .str [], .str [], .int .i64 0, .int .i64 0, .int .i64 0, .int .i64 0, .flt .f64 0, .nsl, .int .i64 0, .int .i64 0, .str [], .str [], .int .i64 0, .int .i64 0, .int .i64 0, .int .i64 0, .flt .f64 0, .nsl, .nsl, .nsl, .str [116, 109], .int .i64 0, .int .i64 0, .vsl 2 10 [.sym 80, .sym 81, .sym 82, .sym 83, .sym 84, .sym 85, .sym 86, .sym 87, .sym 88, .sym 89, .sym 95, .sym 96, .sym 97, .sym 98, .sym 99, .sym 100, .sym 101, .sym 102, .sym 103, .sym 104], .sym 105]))
 .nil))
 .nil))
 (.lt (.bin .eql 3 false true) [.sym 70, .int .i64 3] 76 none
 (.ite 76
 (.callF 81 ft81 [.sym 64, .sym 71, .int .i64 1, .int .i64 2] 77
 (.cons 11
 (.callF 83 ft83 [.sym 64, .sym 91, .int .i64 2, .int .i64 1] 92
 (.cons 11
 (.done (.tup [.int .i64 0, .int .i64 4, .int .i64 0, .int .i64 0, .str [], .str [], .int .i64 0, .int .i64 0, .int .i64 0, .int .i64 0, .flt .f64 0, .nsl, .int .i64 0, .int .i64 0, .str [], .str [], .int .i64 0, .int .i64 0, .int .i64 0, .int .i64 0, .flt .f64 0, .nsl, .nsl, .nsl, .str [99], .int .i64 0, .int .i64 0, .vsl 2 10 [.sym 81, .sym 82, .sym 83, .sym 84, .sym 85, .sym 86, .sym 87, .sym 88, .sym 89, .sym 90, .sym 96, .sym 97, .sym 98, .sym 99, .sym 100, .sym 101, .sym 102, .sym 103, .sym 104, .sym 105], .sym 106]))
 .nil))
 .nil))
 (.lt (.bin .eql 3 false true) [.sym 70, .int .i64 4] 77 none
 (.ite 77
 (.callF 81 ft81 [.sym 64, .sym 71, .int .i64 1, .int .i64 2] 78
 (.cons 11
 (.done (.tup [.int .i64 0, .int .i64 4, .int .i64 0, .int .i64 0, .str [], .str [], .int .i64 0, .int .i64 0, .int .i64 0, .int .i64 0, .flt .f64 0, .nsl, .int .i64 0, .int .i64 0, .str [], .str [], .int .i64 0, .int .i64 0, .int .i64 0, .int .i64 0, .flt .f64 0, .nsl, .nsl, .nsl, .str [101], .int .i64 0, .int .i64 0, .vsl 1 10 [.sym 82, .sym 83, .sym 84, .sym 85, .sym 86, .sym 87, .sym 88, .sym 89, .sym 90, .sym 91], .sym 92]))
 .nil))
 (.lt (.bin .eql 3 false true) [.sym 70, .int .i64 5] 78 none
 (.ite 78
 (.callF 81 ft81 [.sym 64, .sym 71, .int .i64 2, .int .i64 2] 79
 (.cons 11
 (.callF 81 ft81 [.sym 64, .sym 93, .int .i64 2, .int .i64 3] 94
 (.cons 11
 (.done (.tup [.int .i64 0, .int .i64 1, .int .i64 3, .int .i64 0, .str [107], .str [], .int .i64 0, .int .i64 0, .int .i64 0, .int .i64 0, .flt .f64 0, .vsl 1 10 [.sym 83, .sym 84, .sym 85, .sym 86, .sym 87, .sym 88, .sym 89, .sym 90, .sym 91, .sym 92], .sym 98, .sym 99, .sym 100, .sym 101, .sym 102, .sym 103, .sym 104, .sym 105, .sym 106, .sym 107, .nsl, .nsl, .str [], .int .i64 0, .int .i64 0, .nsl, .sym 108]))
 .nil))
 .nil))
 (.callF 64 ft64 [.sym 64, .sym 71, .int .i64 6] 79
 (.cons 2
 (.lt (.iaddr 125) [.vsl 6 1 [.str [111], .str [120], .str [113], .str [121], .str [122], .str [119]], .sym 82] 84 none
 (.lt (.load 9) [.sym 84] 85 none
 (.lt (.mget 135 [(.str [111], .int .i64 2, 0), (.str [120], .int .i64 2, 1), (.str [113], .int .i64 1, 2), (.str [121], .int .i64 3, 3), (.str [122], .int .i64 5, 4), (.str [119], .int .i64 4, 5)]) [.sym 85] 86 none
 (.call 82 [.sym 85] 87 [(some 10)]
 (.callF 81 ft81 [.sym 64, .sym 83, .sym 86, .int .i64 4] 97
 (.cons 11
 (.done (.tup [.int .i64 0, .int .i64 1, .sym 87, .sym 88, .sym 89, .sym 90, .sym 91, .sym 92, .sym 93, .sym 94, .sym 95, .sym 96, .sym 101, .sym 102, .sym 103, .sym 104, .sym 105, .sym 106, .sym 107, .sym 108, .sym 109, .sym 110, .nsl, .nsl, .str [], .int .i64 0, .int .i64 0, .nsl, .sym 111]))
 .nil))))))
 .nil))))))))))))
 (.lt (.bin .eql 3 false true) [.sym 70, .int .i64 2] 74 none
 (.ite 74
 (.callF 81 ft81 [.sym 64, .sym 71, .int .i64 1, .int .i64 2] 75
 (.cons 11
 (.callF 81 ft81 [.sym 64, .sym 89, .int .i64 4, .int .i64 2] 90
 (.cons 11
 (.done (.tup [.int .i64 0, .int .i64 4, .int .i64 0, .int .i64 0, .str [], .str [], .int .i64 0, .int .i64 0, .int .i64 0, .int .i64 0, .flt .f64 0, .nsl, .int .i64 0, .int .i64 0, .str [], .str [], .int .i64 0, .int .i64 0, .int .i64 0, .int .i64 0, .flt .f64 0, .nsl, .nsl, .nsl, .str [116, 109], .int .i64 0, .int .i64 0, .vsl 2 10 [.sym 79, .sym 80, .sym 81, .sym 82, .sym 83, .sym 84, .sym 85, .sym 86, .sym 87, .sym 88, .sym 94, .sym 95, .sym 96, .sym 97, .sym 98, .sym 99, .sym 100, .sym 101, .sym 102, .sym 103], .sym 104]))
 .nil))
 .nil))
 (.lt (.bin .eql 3 false true) [.sym 70, .int .i64 3] 75 none
 (.ite 75
 (.callF 81 ft81 [.sym 64, .sym 71, .int .i64 1, .int .i64 2] 76
 (.cons 11
 (.callF 83 ft83 [.sym 64, .sym 90, .int .i64 2, .int .i64 1] 91
 (.cons 11
 (.done (.tup [.int .i64 0, .int .i64 4, .int .i64 0, .int .i64 0, .str [], .str [], .int .i64 0, .int .i64 0, .int .i64 0, .int .i64 0, .flt .f64 0, .nsl, .int .i64 0, .int .i64 0, .str [], .str [], .int .i64 0, .int .i64 0, .int .i64 0, .int .i64 0, .flt .f64 0, .nsl, .nsl, .nsl, .str [99], .int .i64 0, .int .i64 0, .vsl 2 10 [.sym 80, .sym 81, .sym 82, .sym 83, .sym 84, .sym 85, .sym 86, .sym 87, .sym 88, .sym 89, .sym 95, .sym 96, .sym 97, .sym 98, .sym 99, .sym 100, .sym 101, .sym 102, .sym 103, .sym 104], .sym 105]))
 .nil))
 .nil))
 (.lt (.bin .eql 3 false true) [.sym 70, .int .i64 4] 76 none
 (.ite 76
 (.callF 81 ft81 [.sym 64, .sym 71, .int .i64 1, .int .i64 2] 77
 (.cons 11
 (.done (.tup [.int .i64 0, .int .i64 4, .int .i64 0, .int .i64 0, .str [], .str [], .int .i64 0, .int .i64 0, .int .i64 0, .int .i64 0, .flt .f64 0, .nsl, .int .i64 0, .int .i64 0, .str [], .str [], .int .i64 0, .int .i64 0, .int .i64 0, .int .i64 0, .flt .f64 0, .nsl, .nsl, .nsl, .str [101], .int .i64 0, .int .i64 0, .vsl 1 10 [.sym 81, .sym 82, .sym 83, .sym 84, .sym 85, .sym 86, .sym 87, .sym 88, .sym 89, .sym 90], .sym 91]))
 .nil))
 (.lt (.bin .eql 3 false true) [.sym 70, .int .i64 5] 77 none
 (.ite 77
 (.callF 81 ft81 [.sym 64, .sym 71, .int .i64 2, .int .i64 2] 78
 (.cons 11
 (.callF 81 ft81 [.sym 64, .sym 92, .int .i64 2, .int .i64 3] 93
 (.cons 11
 (.done (.tup [.int .i64 0, .int .i64 1, .int .i64 3, .int .i64 0, .str [107], .str [], .int .i64 0, .int .i64 0, .int .i64 0, .int .i64 0, .flt .f64 0, .vsl 1 10 [.sym 82, .sym 83, .sym 84, .sym 85, .sym 86, .sym 87, .sym 88, .sym 89, .sym 90, .sym 91], .sym 97, .sym 98, .sym 99, .sym 100, .sym 101, .sym 102, .sym 103, .sym 104, .sym 105, .sym 106, .nsl, .nsl, .str [], .int .i64 0, .int .i64 0, .nsl, .sym 107]))
 .nil))
 .nil))
 (.callF 64 ft64 [.sym 64, .sym 71, .int .i64 6] 78
 (.cons 2
 (.lt (.iaddr 125) [.vsl 6 1 [.str [111], .str [120], .str [113], .str [121], .str [122], .str [119]], .sym 81] 83 none
 (.lt (.load 9) [.sym 83] 84 none
 (.lt (.mget 135 [(.str [111], .int .i64 2, 0), (.str [120], .int .i64 2, 1), (.str [113], .int .i64 1, 2), (.str [121], .int .i64 3, 3), (.str [122], .int .i64 5, 4), (.str [119], .int .i64 4, 5)]) [.sym 84] 85 none
 (.call 82 [.sym 84] 86 [(some 10)]
 (.callF 81 ft81 [.sym 64, .sym 82, .sym 85, .int .i64 4] 96
 (.cons 11
 (.done (.tup [.int .i64 0, .int .i64 1, .sym 86, .sym 87, .sym 88, .sym 89, .sym 90, .sym 91, .sym 92, .sym 93, .sym 94, .sym 95, .sym 100, .sym 101, .sym 102, .sym 103, .sym 104, .sym 105, .sym 106, .sym 107, .sym 108, .sym 109, .nsl, .nsl, .str [], .int .i64 0, .int .i64 0, .nsl, .sym 110]))
 .nil))))))
 .nil))))))))))))))
 .nil))
def c38 : VC := ⟨⟨[], []⟩, [], [(0, [⟨[(8, .slx 0 0 0), (2, .sym 67), (0, .ptr 0 0), (7, .slx 1 27 1)], [(0, [.sym 64, .slx 2 0 0])], 2, 3, [⟨1, 27, 1, 7, none⟩], [], []⟩])], 1, true, [(64, ft64), (65, ft65)]⟩
def t38 : VT :=
 (.callF 64 ft64 [.sym 64, .sym 65, .sym 66] 68
 (.cons 2
 (.lt (.bin .add 3 false true) [.sym 71, .int .i64 1] 73 none
 (.loop 74 0 [.sym 73, .nsl, .sym 72]
 (.cons 3
 (.lt (.bin .gtr 3 false true) [.sym 74, .int .i64 0] 77 none
 (.ite 77
 (.callF 65 ft65 [.sym 64, .sym 76, .sym 67] 78
 (.cons 28
 (.lt (.app 27 336) [.sym 75, .agg [.sym 81, .sym 82, .sym 83, .sym 84, .sym 85, .sym 86, .sym 87, .sym 88, .sym 89, .sym 90, .sym 91, .sym 92, .sym 93, .sym 94, .sym 95, .sym 96, .sym 97, .sym 98, .sym 99, .sym 100, .sym 101, .sym 102, .sym 103, .sym 104, .sym 105, .sym 106, .sym 107]] 109 none
 (.lt (.bin .sub 3 false true) [.sym 74, .int .i64 1] 110 none
 (.again 0 0 [.sym 110, .sym 109, .sym 108])))
 .nil))
 (.done (.tup [.int .i64 0, .sym 75, .sym 76]))))
 .nil)))
 .nil))
theorem run_app27 (l : List GS) (s : GS) (hl : l.length ≤ 1000) : (XOp.app 27 336).run Try.prog [encB l, .agg (encS s)] = some (encB (l ++ [s])) := by
 rw [encB_eq, encB_eq]
 exact run_app_sl lenS (by decide) (by decide) l s (by omega)
theorem okR {a : AV} (h : okC a = true) {n m k : Int} : okL [a, .int .i64 n, .int .i64 m, .int .i64 k] = true := by simp only [okL, okC, h]
theorem p65 {l : List UInt8} {a : AV} (hp : Pk l a) (d : Nat) (hd2 : d ≤ 100) (hB : ∀ e, d = e + 1 → PB l a e) : PS l a d := by
 intro n hn
 have hA := hp.1.ok okC8
 have h2 : ∀ (n : Nat) (k : Int), n ≤ l.length → 1 ≤ k ∧ k ≤ 5 → CF Try.prog 81 ftX [a, .int .i64 (n : Int), .int .i64 k, .int .i64 2] (RX l 2) := (pX hp 1 (by decide)).2
 have h3 : ∀ (n : Nat) (k : Int), n ≤ l.length → 1 ≤ k ∧ k ≤ 5 → CF Try.prog 81 ftX [a, .int .i64 (n : Int), .int .i64 k, .int .i64 3] (RX l 3) := (pX hp 2 (by decide)).2
 have h4 : ∀ (n : Nat) (k : Int), n ≤ l.length → 1 ≤ k ∧ k ≤ 5 → CF Try.prog 81 ftX [a, .int .i64 (n : Int), .int .i64 k, .int .i64 4] (RX l 4) := (pX hp 3 (by decide)).2
 have h31 : ∀ (n : Nat) (k : Int), n ≤ l.length → 1 ≤ k ∧ k ≤ 5 → CF Try.prog 83 ftX [a, .int .i64 (n : Int), .int .i64 k, .int .i64 1] (RX l 1) := (pX hp 0 (by decide)).1
 refine cf_tree (c := c65) (n := 300) (t := t65) mo ov rfl (fun Y _ => known0 _) (by kernel_rfl) fun Y hf hg => ?_
 unfold t65
 (refine callF' (p64i hp hn (by first | decide | omega) (by first | decide | omega)) rfl (okP hA) ⟨?_, trivial⟩; intro ws hw; rcases hw with ⟨v, n, rfl, hv, hn⟩)
 (first
   | refine VOK_lt (run_eql ..) rfl (VOK_ite rfl (fun h => ?_) (fun h => ?_))
   | refine VOK_lt (run_neq ..) rfl (VOK_ite rfl (fun h => ?_) (fun h => ?_))
   | refine VOK_lt (run_lss ..) rfl (VOK_ite rfl (fun h => ?_) (fun h => ?_))
   | refine VOK_lt (run_leq ..) rfl (VOK_ite rfl (fun h => ?_) (fun h => ?_))
   | refine VOK_lt (run_gtr ..) rfl (VOK_ite rfl (fun h => ?_) (fun h => ?_)))
 ·(first
     | refine VOK_lt (run_eql ..) rfl (VOK_ite rfl (fun h => ?_) (fun h => ?_))
     | refine VOK_lt (run_neq ..) rfl (VOK_ite rfl (fun h => ?_) (fun h => ?_))
     | refine VOK_lt (run_lss ..) rfl (VOK_ite rfl (fun h => ?_) (fun h => ?_))
     | refine VOK_lt (run_leq ..) rfl (VOK_ite rfl (fun h => ?_) (fun h => ?_))
     | refine VOK_lt (run_gtr ..) rfl (VOK_ite rfl (fun h => ?_) (fun h => ?_)))
  ·obtain ⟨e, rfl⟩ : ∃ e, d = e + 1 := ⟨d - 1, by simp at h; omega⟩
   have hB := hB e rfl
   (refine callF' (h3 _ _ hn (by decide)) rfl (okQ hA) ⟨?_, trivial⟩; intro ws hw; obtain ⟨⟨op, kd, nm, fd, ad, nn, vk, vi, vf, args⟩, n, rfl, hx, hn⟩ := hw; replace hx := WX_mono (e := 5) (by decide) hx)
   refine VOK_lt (sub_c (z := (e : Int)) (by omega) (by omega) (by omega)) rfl ?_
   refine callF' (hB _ 2 hn (by decide) (by decide)) rfl (okR hA) ⟨?_, trivial⟩
   rintro ws ⟨thn, n, rfl, ⟨ht, hts⟩, hn⟩
   (refine callF' (p64i hp hn (by first | decide | omega) (by first | decide | omega)) rfl (okP hA) ⟨?_, trivial⟩; intro ws hw; rcases hw with ⟨v, n, rfl, hv, hn⟩)
   (first
     | refine VOK_lt (run_eql ..) rfl (VOK_ite rfl (fun h => ?_) (fun h => ?_))
     | refine VOK_lt (run_neq ..) rfl (VOK_ite rfl (fun h => ?_) (fun h => ?_))
     | refine VOK_lt (run_lss ..) rfl (VOK_ite rfl (fun h => ?_) (fun h => ?_))
     | refine VOK_lt (run_leq ..) rfl (VOK_ite rfl (fun h => ?_) (fun h => ?_))
     | refine VOK_lt (run_gtr ..) rfl (VOK_ite rfl (fun h => ?_) (fun h => ?_)))
   ·refine VOK_lt (sub_c (z := (e : Int)) (by omega) (by omega) (by omega)) rfl ?_
    refine callF' (hB _ 2 hn (by decide) (by decide)) rfl (okR hA) ⟨?_, trivial⟩
    rintro ws ⟨els, n, rfl, ⟨he, hes⟩, hn⟩
    exact finS (x := .mk _ (.mk _ _ _ _ _ _ _ _ _ []) (.mk _ _ _ _ _ _ _ _ _ _) thn els _ _ _ []) rfl (WS_if (.inl rfl) (by assumption) (by omega) (by omega) hts hes) hn
   ·exact finS (x := .mk _ (.mk _ _ _ _ _ _ _ _ _ []) (.mk _ _ _ _ _ _ _ _ _ _) thn [] _ _ _ []) rfl (WS_if (.inl rfl) (by assumption) (by omega) (by decide) hts (fun s hs => (List.not_mem_nil hs).elim)) hn
  ·(
    (first
      | refine VOK_lt (run_eql ..) rfl (VOK_ite rfl (fun h => ?_) (fun h => ?_))
      | refine VOK_lt (run_neq ..) rfl (VOK_ite rfl (fun h => ?_) (fun h => ?_))
      | refine VOK_lt (run_lss ..) rfl (VOK_ite rfl (fun h => ?_) (fun h => ?_))
      | refine VOK_lt (run_leq ..) rfl (VOK_ite rfl (fun h => ?_) (fun h => ?_))
      | refine VOK_lt (run_gtr ..) rfl (VOK_ite rfl (fun h => ?_) (fun h => ?_)))
    ·(first
        | refine VOK_lt (run_eql ..) rfl (VOK_ite rfl (fun h => ?_) (fun h => ?_))
        | refine VOK_lt (run_neq ..) rfl (VOK_ite rfl (fun h => ?_) (fun h => ?_))
        | refine VOK_lt (run_lss ..) rfl (VOK_ite rfl (fun h => ?_) (fun h => ?_))
        | refine VOK_lt (run_leq ..) rfl (VOK_ite rfl (fun h => ?_) (fun h => ?_))
        | refine VOK_lt (run_gtr ..) rfl (VOK_ite rfl (fun h => ?_) (fun h => ?_)))
     ·obtain ⟨e, rfl⟩ : ∃ e, d = e + 1 := ⟨d - 1, by simp at h; omega⟩
      have hB := hB e rfl
      refine VOK_call (p82 _) rfl rfl ?_
      (refine callF' (h31 _ _ hn (by first | decide | (simp only [decide_eq_true_eq, decide_eq_false_iff_not] at *; omega))) rfl (okQ hA) ⟨?_, trivial⟩; intro ws hw; obtain ⟨⟨op, kd, nm, fd, ad, nn, vk, vi, vf, args⟩, n, rfl, hx, hn⟩ := hw)
      refine VOK_lt (sub_c (z := (e : Int)) (by omega) (by omega) (by omega)) rfl ?_
      refine callF' (hB _ 1 hn (by decide) (by decide)) rfl (okR hA) ⟨?_, trivial⟩
      rintro ws ⟨thn, n, rfl, ⟨ht, hts⟩, hn⟩
      refine VOK_call (p82 _) rfl rfl (VOK_call (p82 _) rfl rfl (VOK_call p84 rfl rfl ?_))
      refine VOK_lt (run_app27 thn (.mk 1 (.mk _ _ _ _ _ _ _ _ _ []) (.mk _ _ _ _ _ _ _ _ _ [.mk _ _ _ _ _ _ _ _ _ [], .mk _ _ _ _ _ _ _ _ _ []]) [] [] _ _ _ []) (by omega)) (okB _) ?_
      refine finS (x := .mk _ (.mk _ _ _ _ _ _ _ _ _ []) (.mk _ _ _ _ _ _ _ _ _ [.mk _ _ _ _ _ _ _ _ _ [], .mk _ _ _ _ _ _ _ _ _ _]) (thn ++ [_]) [] _ _ _ []) rfl (WS_if (.inr rfl) ?_ ?_ (by decide) ?_ (fun s hs => (List.not_mem_nil hs).elim)) hn
      ·exact WX_2 (by decide) (WX_name (by decide)) (WX_mono (e := 4) (by decide) hx)
      ·rw [List.length_append]; simp; omega
      ·intro s hs
       rcases List.mem_append.1 hs with hs | hs
       ·exact hts s hs
       ·cases List.mem_singleton.1 hs
        exact WS_set (mk_name (by decide)) (.inl rfl) (WX_2 (by decide) (WX_name (by decide)) (WX_lit (by unfold LitOk; omega) (.inl rfl)))
     ·(
       (first
         | refine VOK_lt (run_eql ..) rfl (VOK_ite rfl (fun h => ?_) (fun h => ?_))
         | refine VOK_lt (run_neq ..) rfl (VOK_ite rfl (fun h => ?_) (fun h => ?_))
         | refine VOK_lt (run_lss ..) rfl (VOK_ite rfl (fun h => ?_) (fun h => ?_))
         | refine VOK_lt (run_leq ..) rfl (VOK_ite rfl (fun h => ?_) (fun h => ?_))
         | refine VOK_lt (run_gtr ..) rfl (VOK_ite rfl (fun h => ?_) (fun h => ?_)))
       ·(refine callF' (h2 _ _ hn (by decide)) rfl (okQ hA) ⟨?_, trivial⟩; intro ws hw; obtain ⟨⟨op, kd, nm, fd, ad, nn, vk, vi, vf, args⟩, n, rfl, hx, hn⟩ := hw; replace hx := WX_mono (e := 5) (by decide) hx); (refine callF' (h2 _ _ hn (by decide)) rfl (okQ hA) ⟨?_, trivial⟩; intro ws hw; obtain ⟨⟨op, kd, nm, fd, ad, nn, vk, vi, vf, args⟩, n, rfl, hx, hn⟩ := hw; replace hx := WX_mono (e := 5) (by decide) hx); exact finS (x := .mk _ (.mk _ _ _ _ _ _ _ _ _ []) (.mk _ _ _ _ _ _ _ _ _ []) [] [] _ _ _ [.mk _ _ _ _ _ _ _ _ _ _, .mk _ _ _ _ _ _ _ _ _ _]) rfl (WS_call (by decide) (by simp) (all2 (by assumption) (by assumption))) hn
       (first
         | refine VOK_lt (run_eql ..) rfl (VOK_ite rfl (fun h => ?_) (fun h => ?_))
         | refine VOK_lt (run_neq ..) rfl (VOK_ite rfl (fun h => ?_) (fun h => ?_))
         | refine VOK_lt (run_lss ..) rfl (VOK_ite rfl (fun h => ?_) (fun h => ?_))
         | refine VOK_lt (run_leq ..) rfl (VOK_ite rfl (fun h => ?_) (fun h => ?_))
         | refine VOK_lt (run_gtr ..) rfl (VOK_ite rfl (fun h => ?_) (fun h => ?_)))
       ·(refine callF' (h2 _ _ hn (by decide)) rfl (okQ hA) ⟨?_, trivial⟩; intro ws hw; obtain ⟨⟨op, kd, nm, fd, ad, nn, vk, vi, vf, args⟩, n, rfl, hx, hn⟩ := hw; replace hx := WX_mono (e := 5) (by decide) hx); (refine callF' (h31 _ _ hn (by decide)) rfl (okQ hA) ⟨?_, trivial⟩; intro ws hw; obtain ⟨⟨op, kd, nm, fd, ad, nn, vk, vi, vf, args⟩, n, rfl, hx, hn⟩ := hw; replace hx := WX_mono (e := 5) (by decide) hx); exact finS (x := .mk _ (.mk _ _ _ _ _ _ _ _ _ []) (.mk _ _ _ _ _ _ _ _ _ []) [] [] _ _ _ [.mk _ _ _ _ _ _ _ _ _ _, .mk _ _ _ _ _ _ _ _ _ _]) rfl (WS_call (by decide) (by simp) (all2 (by assumption) (by assumption))) hn
       (first
         | refine VOK_lt (run_eql ..) rfl (VOK_ite rfl (fun h => ?_) (fun h => ?_))
         | refine VOK_lt (run_neq ..) rfl (VOK_ite rfl (fun h => ?_) (fun h => ?_))
         | refine VOK_lt (run_lss ..) rfl (VOK_ite rfl (fun h => ?_) (fun h => ?_))
         | refine VOK_lt (run_leq ..) rfl (VOK_ite rfl (fun h => ?_) (fun h => ?_))
         | refine VOK_lt (run_gtr ..) rfl (VOK_ite rfl (fun h => ?_) (fun h => ?_)))
       ·(refine callF' (h2 _ _ hn (by decide)) rfl (okQ hA) ⟨?_, trivial⟩; intro ws hw; obtain ⟨⟨op, kd, nm, fd, ad, nn, vk, vi, vf, args⟩, n, rfl, hx, hn⟩ := hw; replace hx := WX_mono (e := 5) (by decide) hx); exact finS (x := .mk _ (.mk _ _ _ _ _ _ _ _ _ []) (.mk _ _ _ _ _ _ _ _ _ []) [] [] _ _ _ [.mk _ _ _ _ _ _ _ _ _ _]) rfl (WS_call (by decide) (by simp) (all1 (by assumption))) hn
       (first
         | refine VOK_lt (run_eql ..) rfl (VOK_ite rfl (fun h => ?_) (fun h => ?_))
         | refine VOK_lt (run_neq ..) rfl (VOK_ite rfl (fun h => ?_) (fun h => ?_))
         | refine VOK_lt (run_lss ..) rfl (VOK_ite rfl (fun h => ?_) (fun h => ?_))
         | refine VOK_lt (run_leq ..) rfl (VOK_ite rfl (fun h => ?_) (fun h => ?_))
         | refine VOK_lt (run_gtr ..) rfl (VOK_ite rfl (fun h => ?_) (fun h => ?_)))
       ·(refine callF' (h2 _ _ hn (by first | decide | (simp only [decide_eq_true_eq, decide_eq_false_iff_not] at *; omega))) rfl (okQ hA) ⟨?_, trivial⟩; intro ws hw; obtain ⟨⟨op, kd, nm, fd, ad, nn, vk, vi, vf, args⟩, n, rfl, hx, hn⟩ := hw); rename WX _ _ => hx0; (refine callF' (h3 _ _ hn (by decide)) rfl (okQ hA) ⟨?_, trivial⟩; intro ws hw; obtain ⟨⟨op, kd, nm, fd, ad, nn, vk, vi, vf, args⟩, n, rfl, hx, hn⟩ := hw; replace hx := WX_mono (e := 5) (by decide) hx)
        exact finS (x := .mk _ (.mk _ _ _ _ _ _ _ _ _ [.mk _ _ _ _ _ _ _ _ _ _]) (.mk _ _ _ _ _ _ _ _ _ _) [] [] _ _ _ []) rfl (WS_set (WX_mono (d := 4) (by decide) (WX_1 (by decide) hx0)) (.inr rfl) (by assumption)) hn
       ·(refine callF' (p64i hp hn (by first | decide | omega) (by first | decide | omega)) rfl (okP hA) ⟨?_, trivial⟩; intro ws hw; rcases hw with ⟨v, n, rfl, hv, hn⟩)
        have e6 : v = 0 ∨ v = 1 ∨ v = 2 ∨ v = 3 ∨ v = 4 ∨ v = 5 := by omega
        rcases e6 with rfl | rfl | rfl | rfl | rfl | rfl
        all_goals
         refine VOK_lt rfl rfl (VOK_lt rfl rfl (VOK_lt rfl rfl (VOK_call (p82 _) rfl rfl ?_)))
         (refine callF' (h4 _ _ hn (by decide)) rfl (okQ hA) ⟨?_, trivial⟩; intro ws hw; obtain ⟨⟨op, kd, nm, fd, ad, nn, vk, vi, vf, args⟩, n, rfl, hx, hn⟩ := hw; replace hx := WX_mono (e := 5) (by decide) hx)
         exact finS (x := .mk _ (.mk _ _ _ _ _ _ _ _ _ []) (.mk _ _ _ _ _ _ _ _ _ _) [] [] _ _ _ []) rfl (WS_set (mk_name (by decide)) (.inl rfl) (by assumption)) hn)
    ·(
      (first
        | refine VOK_lt (run_eql ..) rfl (VOK_ite rfl (fun h => ?_) (fun h => ?_))
        | refine VOK_lt (run_neq ..) rfl (VOK_ite rfl (fun h => ?_) (fun h => ?_))
        | refine VOK_lt (run_lss ..) rfl (VOK_ite rfl (fun h => ?_) (fun h => ?_))
        | refine VOK_lt (run_leq ..) rfl (VOK_ite rfl (fun h => ?_) (fun h => ?_))
        | refine VOK_lt (run_gtr ..) rfl (VOK_ite rfl (fun h => ?_) (fun h => ?_)))
      ·(refine callF' (h2 _ _ hn (by decide)) rfl (okQ hA) ⟨?_, trivial⟩; intro ws hw; obtain ⟨⟨op, kd, nm, fd, ad, nn, vk, vi, vf, args⟩, n, rfl, hx, hn⟩ := hw; replace hx := WX_mono (e := 5) (by decide) hx); (refine callF' (h2 _ _ hn (by decide)) rfl (okQ hA) ⟨?_, trivial⟩; intro ws hw; obtain ⟨⟨op, kd, nm, fd, ad, nn, vk, vi, vf, args⟩, n, rfl, hx, hn⟩ := hw; replace hx := WX_mono (e := 5) (by decide) hx); exact finS (x := .mk _ (.mk _ _ _ _ _ _ _ _ _ []) (.mk _ _ _ _ _ _ _ _ _ []) [] [] _ _ _ [.mk _ _ _ _ _ _ _ _ _ _, .mk _ _ _ _ _ _ _ _ _ _]) rfl (WS_call (by decide) (by simp) (all2 (by assumption) (by assumption))) hn
      (first
        | refine VOK_lt (run_eql ..) rfl (VOK_ite rfl (fun h => ?_) (fun h => ?_))
        | refine VOK_lt (run_neq ..) rfl (VOK_ite rfl (fun h => ?_) (fun h => ?_))
        | refine VOK_lt (run_lss ..) rfl (VOK_ite rfl (fun h => ?_) (fun h => ?_))
        | refine VOK_lt (run_leq ..) rfl (VOK_ite rfl (fun h => ?_) (fun h => ?_))
        | refine VOK_lt (run_gtr ..) rfl (VOK_ite rfl (fun h => ?_) (fun h => ?_)))
      ·(refine callF' (h2 _ _ hn (by decide)) rfl (okQ hA) ⟨?_, trivial⟩; intro ws hw; obtain ⟨⟨op, kd, nm, fd, ad, nn, vk, vi, vf, args⟩, n, rfl, hx, hn⟩ := hw; replace hx := WX_mono (e := 5) (by decide) hx); (refine callF' (h31 _ _ hn (by decide)) rfl (okQ hA) ⟨?_, trivial⟩; intro ws hw; obtain ⟨⟨op, kd, nm, fd, ad, nn, vk, vi, vf, args⟩, n, rfl, hx, hn⟩ := hw; replace hx := WX_mono (e := 5) (by decide) hx); exact finS (x := .mk _ (.mk _ _ _ _ _ _ _ _ _ []) (.mk _ _ _ _ _ _ _ _ _ []) [] [] _ _ _ [.mk _ _ _ _ _ _ _ _ _ _, .mk _ _ _ _ _ _ _ _ _ _]) rfl (WS_call (by decide) (by simp) (all2 (by assumption) (by assumption))) hn
      (first
        | refine VOK_lt (run_eql ..) rfl (VOK_ite rfl (fun h => ?_) (fun h => ?_))
        | refine VOK_lt (run_neq ..) rfl (VOK_ite rfl (fun h => ?_) (fun h => ?_))
        | refine VOK_lt (run_lss ..) rfl (VOK_ite rfl (fun h => ?_) (fun h => ?_))
        | refine VOK_lt (run_leq ..) rfl (VOK_ite rfl (fun h => ?_) (fun h => ?_))
        | refine VOK_lt (run_gtr ..) rfl (VOK_ite rfl (fun h => ?_) (fun h => ?_)))
      ·(refine callF' (h2 _ _ hn (by decide)) rfl (okQ hA) ⟨?_, trivial⟩; intro ws hw; obtain ⟨⟨op, kd, nm, fd, ad, nn, vk, vi, vf, args⟩, n, rfl, hx, hn⟩ := hw; replace hx := WX_mono (e := 5) (by decide) hx); exact finS (x := .mk _ (.mk _ _ _ _ _ _ _ _ _ []) (.mk _ _ _ _ _ _ _ _ _ []) [] [] _ _ _ [.mk _ _ _ _ _ _ _ _ _ _]) rfl (WS_call (by decide) (by simp) (all1 (by assumption))) hn
      (first
        | refine VOK_lt (run_eql ..) rfl (VOK_ite rfl (fun h => ?_) (fun h => ?_))
        | refine VOK_lt (run_neq ..) rfl (VOK_ite rfl (fun h => ?_) (fun h => ?_))
        | refine VOK_lt (run_lss ..) rfl (VOK_ite rfl (fun h => ?_) (fun h => ?_))
        | refine VOK_lt (run_leq ..) rfl (VOK_ite rfl (fun h => ?_) (fun h => ?_))
        | refine VOK_lt (run_gtr ..) rfl (VOK_ite rfl (fun h => ?_) (fun h => ?_)))
      ·(refine callF' (h2 _ _ hn (by first | decide | (simp only [decide_eq_true_eq, decide_eq_false_iff_not] at *; omega))) rfl (okQ hA) ⟨?_, trivial⟩; intro ws hw; obtain ⟨⟨op, kd, nm, fd, ad, nn, vk, vi, vf, args⟩, n, rfl, hx, hn⟩ := hw); rename WX _ _ => hx0; (refine callF' (h3 _ _ hn (by decide)) rfl (okQ hA) ⟨?_, trivial⟩; intro ws hw; obtain ⟨⟨op, kd, nm, fd, ad, nn, vk, vi, vf, args⟩, n, rfl, hx, hn⟩ := hw; replace hx := WX_mono (e := 5) (by decide) hx)
       exact finS (x := .mk _ (.mk _ _ _ _ _ _ _ _ _ [.mk _ _ _ _ _ _ _ _ _ _]) (.mk _ _ _ _ _ _ _ _ _ _) [] [] _ _ _ []) rfl (WS_set (WX_mono (d := 4) (by decide) (WX_1 (by decide) hx0)) (.inr rfl) (by assumption)) hn
      ·(refine callF' (p64i hp hn (by first | decide | omega) (by first | decide | omega)) rfl (okP hA) ⟨?_, trivial⟩; intro ws hw; rcases hw with ⟨v, n, rfl, hv, hn⟩)
       have e6 : v = 0 ∨ v = 1 ∨ v = 2 ∨ v = 3 ∨ v = 4 ∨ v = 5 := by omega
       rcases e6 with rfl | rfl | rfl | rfl | rfl | rfl
       all_goals
        refine VOK_lt rfl rfl (VOK_lt rfl rfl (VOK_lt rfl rfl (VOK_call (p82 _) rfl rfl ?_)))
        (refine callF' (h4 _ _ hn (by decide)) rfl (okQ hA) ⟨?_, trivial⟩; intro ws hw; obtain ⟨⟨op, kd, nm, fd, ad, nn, vk, vi, vf, args⟩, n, rfl, hx, hn⟩ := hw; replace hx := WX_mono (e := 5) (by decide) hx)
        exact finS (x := .mk _ (.mk _ _ _ _ _ _ _ _ _ []) (.mk _ _ _ _ _ _ _ _ _ _) [] [] _ _ _ []) rfl (WS_set (mk_name (by decide)) (.inl rfl) (by assumption)) hn))
 ·(
   (first
     | refine VOK_lt (run_eql ..) rfl (VOK_ite rfl (fun h => ?_) (fun h => ?_))
     | refine VOK_lt (run_neq ..) rfl (VOK_ite rfl (fun h => ?_) (fun h => ?_))
     | refine VOK_lt (run_lss ..) rfl (VOK_ite rfl (fun h => ?_) (fun h => ?_))
     | refine VOK_lt (run_leq ..) rfl (VOK_ite rfl (fun h => ?_) (fun h => ?_))
     | refine VOK_lt (run_gtr ..) rfl (VOK_ite rfl (fun h => ?_) (fun h => ?_)))
   ·(first
       | refine VOK_lt (run_eql ..) rfl (VOK_ite rfl (fun h => ?_) (fun h => ?_))
       | refine VOK_lt (run_neq ..) rfl (VOK_ite rfl (fun h => ?_) (fun h => ?_))
       | refine VOK_lt (run_lss ..) rfl (VOK_ite rfl (fun h => ?_) (fun h => ?_))
       | refine VOK_lt (run_leq ..) rfl (VOK_ite rfl (fun h => ?_) (fun h => ?_))
       | refine VOK_lt (run_gtr ..) rfl (VOK_ite rfl (fun h => ?_) (fun h => ?_)))
    ·obtain ⟨e, rfl⟩ : ∃ e, d = e + 1 := ⟨d - 1, by simp at h; omega⟩
     have hB := hB e rfl
     refine VOK_call (p82 _) rfl rfl ?_
     (refine callF' (h31 _ _ hn (by first | decide | (simp only [decide_eq_true_eq, decide_eq_false_iff_not] at *; omega))) rfl (okQ hA) ⟨?_, trivial⟩; intro ws hw; obtain ⟨⟨op, kd, nm, fd, ad, nn, vk, vi, vf, args⟩, n, rfl, hx, hn⟩ := hw)
     refine VOK_lt (sub_c (z := (e : Int)) (by omega) (by omega) (by omega)) rfl ?_
     refine callF' (hB _ 1 hn (by decide) (by decide)) rfl (okR hA) ⟨?_, trivial⟩
     rintro ws ⟨thn, n, rfl, ⟨ht, hts⟩, hn⟩
     refine VOK_call (p82 _) rfl rfl (VOK_call (p82 _) rfl rfl (VOK_call p84 rfl rfl ?_))
     refine VOK_lt (run_app27 thn (.mk 1 (.mk _ _ _ _ _ _ _ _ _ []) (.mk _ _ _ _ _ _ _ _ _ [.mk _ _ _ _ _ _ _ _ _ [], .mk _ _ _ _ _ _ _ _ _ []]) [] [] _ _ _ []) (by omega)) (okB _) ?_
     refine finS (x := .mk _ (.mk _ _ _ _ _ _ _ _ _ []) (.mk _ _ _ _ _ _ _ _ _ [.mk _ _ _ _ _ _ _ _ _ [], .mk _ _ _ _ _ _ _ _ _ _]) (thn ++ [_]) [] _ _ _ []) rfl (WS_if (.inr rfl) ?_ ?_ (by decide) ?_ (fun s hs => (List.not_mem_nil hs).elim)) hn
     ·exact WX_2 (by decide) (WX_name (by decide)) (WX_mono (e := 4) (by decide) hx)
     ·rw [List.length_append]; simp; omega
     ·intro s hs
      rcases List.mem_append.1 hs with hs | hs
      ·exact hts s hs
      ·cases List.mem_singleton.1 hs
       exact WS_set (mk_name (by decide)) (.inl rfl) (WX_2 (by decide) (WX_name (by decide)) (WX_lit (by unfold LitOk; omega) (.inl rfl)))
    ·(
      (first
        | refine VOK_lt (run_eql ..) rfl (VOK_ite rfl (fun h => ?_) (fun h => ?_))
        | refine VOK_lt (run_neq ..) rfl (VOK_ite rfl (fun h => ?_) (fun h => ?_))
        | refine VOK_lt (run_lss ..) rfl (VOK_ite rfl (fun h => ?_) (fun h => ?_))
        | refine VOK_lt (run_leq ..) rfl (VOK_ite rfl (fun h => ?_) (fun h => ?_))
        | refine VOK_lt (run_gtr ..) rfl (VOK_ite rfl (fun h => ?_) (fun h => ?_)))
      ·(refine callF' (h2 _ _ hn (by decide)) rfl (okQ hA) ⟨?_, trivial⟩; intro ws hw; obtain ⟨⟨op, kd, nm, fd, ad, nn, vk, vi, vf, args⟩, n, rfl, hx, hn⟩ := hw; replace hx := WX_mono (e := 5) (by decide) hx); (refine callF' (h2 _ _ hn (by decide)) rfl (okQ hA) ⟨?_, trivial⟩; intro ws hw; obtain ⟨⟨op, kd, nm, fd, ad, nn, vk, vi, vf, args⟩, n, rfl, hx, hn⟩ := hw; replace hx := WX_mono (e := 5) (by decide) hx); exact finS (x := .mk _ (.mk _ _ _ _ _ _ _ _ _ []) (.mk _ _ _ _ _ _ _ _ _ []) [] [] _ _ _ [.mk _ _ _ _ _ _ _ _ _ _, .mk _ _ _ _ _ _ _ _ _ _]) rfl (WS_call (by decide) (by simp) (all2 (by assumption) (by assumption))) hn
      (first
        | refine VOK_lt (run_eql ..) rfl (VOK_ite rfl (fun h => ?_) (fun h => ?_))
        | refine VOK_lt (run_neq ..) rfl (VOK_ite rfl (fun h => ?_) (fun h => ?_))
        | refine VOK_lt (run_lss ..) rfl (VOK_ite rfl (fun h => ?_) (fun h => ?_))
        | refine VOK_lt (run_leq ..) rfl (VOK_ite rfl (fun h => ?_) (fun h => ?_))
        | refine VOK_lt (run_gtr ..) rfl (VOK_ite rfl (fun h => ?_) (fun h => ?_)))
      ·(refine callF' (h2 _ _ hn (by decide)) rfl (okQ hA) ⟨?_, trivial⟩; intro ws hw; obtain ⟨⟨op, kd, nm, fd, ad, nn, vk, vi, vf, args⟩, n, rfl, hx, hn⟩ := hw; replace hx := WX_mono (e := 5) (by decide) hx); (refine callF' (h31 _ _ hn (by decide)) rfl (okQ hA) ⟨?_, trivial⟩; intro ws hw; obtain ⟨⟨op, kd, nm, fd, ad, nn, vk, vi, vf, args⟩, n, rfl, hx, hn⟩ := hw; replace hx := WX_mono (e := 5) (by decide) hx); exact finS (x := .mk _ (.mk _ _ _ _ _ _ _ _ _ []) (.mk _ _ _ _ _ _ _ _ _ []) [] [] _ _ _ [.mk _ _ _ _ _ _ _ _ _ _, .mk _ _ _ _ _ _ _ _ _ _]) rfl (WS_call (by decide) (by simp) (all2 (by assumption) (by assumption))) hn
      (first
        | refine VOK_lt (run_eql ..) rfl (VOK_ite rfl (fun h => ?_) (fun h => ?_))
        | refine VOK_lt (run_neq ..) rfl (VOK_ite rfl (fun h => ?_) (fun h => ?_))
        | refine VOK_lt (run_lss ..) rfl (VOK_ite rfl (fun h => ?_) (fun h => ?_))
        | refine VOK_lt (run_leq ..) rfl (VOK_ite rfl (fun h => ?_) (fun h => ?_))
        | refine VOK_lt (run_gtr ..) rfl (VOK_ite rfl (fun h => ?_) (fun h => ?_)))
      ·(refine callF' (h2 _ _ hn (by decide)) rfl (okQ hA) ⟨?_, trivial⟩; intro ws hw; obtain ⟨⟨op, kd, nm, fd, ad, nn, vk, vi, vf, args⟩, n, rfl, hx, hn⟩ := hw; replace hx := WX_mono (e := 5) (by decide) hx); exact finS (x := .mk _ (.mk _ _ _ _ _ _ _ _ _ []) (.mk _ _ _ _ _ _ _ _ _ []) [] [] _ _ _ [.mk _ _ _ _ _ _ _ _ _ _]) rfl (WS_call (by decide) (by simp) (all1 (by assumption))) hn
      (first
        | refine VOK_lt (run_eql ..) rfl (VOK_ite rfl (fun h => ?_) (fun h => ?_))
        | refine VOK_lt (run_neq ..) rfl (VOK_ite rfl (fun h => ?_) (fun h => ?_))
        | refine VOK_lt (run_lss ..) rfl (VOK_ite rfl (fun h => ?_) (fun h => ?_))
        | refine VOK_lt (run_leq ..) rfl (VOK_ite rfl (fun h => ?_) (fun h => ?_))
        | refine VOK_lt (run_gtr ..) rfl (VOK_ite rfl (fun h => ?_) (fun h => ?_)))
      ·(refine callF' (h2 _ _ hn (by first | decide | (simp only [decide_eq_true_eq, decide_eq_false_iff_not] at *; omega))) rfl (okQ hA) ⟨?_, trivial⟩; intro ws hw; obtain ⟨⟨op, kd, nm, fd, ad, nn, vk, vi, vf, args⟩, n, rfl, hx, hn⟩ := hw); rename WX _ _ => hx0; (refine callF' (h3 _ _ hn (by decide)) rfl (okQ hA) ⟨?_, trivial⟩; intro ws hw; obtain ⟨⟨op, kd, nm, fd, ad, nn, vk, vi, vf, args⟩, n, rfl, hx, hn⟩ := hw; replace hx := WX_mono (e := 5) (by decide) hx)
       exact finS (x := .mk _ (.mk _ _ _ _ _ _ _ _ _ [.mk _ _ _ _ _ _ _ _ _ _]) (.mk _ _ _ _ _ _ _ _ _ _) [] [] _ _ _ []) rfl (WS_set (WX_mono (d := 4) (by decide) (WX_1 (by decide) hx0)) (.inr rfl) (by assumption)) hn
      ·(refine callF' (p64i hp hn (by first | decide | omega) (by first | decide | omega)) rfl (okP hA) ⟨?_, trivial⟩; intro ws hw; rcases hw with ⟨v, n, rfl, hv, hn⟩)
       have e6 : v = 0 ∨ v = 1 ∨ v = 2 ∨ v = 3 ∨ v = 4 ∨ v = 5 := by omega
       rcases e6 with rfl | rfl | rfl | rfl | rfl | rfl
       all_goals
        refine VOK_lt rfl rfl (VOK_lt rfl rfl (VOK_lt rfl rfl (VOK_call (p82 _) rfl rfl ?_)))
        (refine callF' (h4 _ _ hn (by decide)) rfl (okQ hA) ⟨?_, trivial⟩; intro ws hw; obtain ⟨⟨op, kd, nm, fd, ad, nn, vk, vi, vf, args⟩, n, rfl, hx, hn⟩ := hw; replace hx := WX_mono (e := 5) (by decide) hx)
        exact finS (x := .mk _ (.mk _ _ _ _ _ _ _ _ _ []) (.mk _ _ _ _ _ _ _ _ _ _) [] [] _ _ _ []) rfl (WS_set (mk_name (by decide)) (.inl rfl) (by assumption)) hn)
   ·(
     (first
       | refine VOK_lt (run_eql ..) rfl (VOK_ite rfl (fun h => ?_) (fun h => ?_))
       | refine VOK_lt (run_neq ..) rfl (VOK_ite rfl (fun h => ?_) (fun h => ?_))
       | refine VOK_lt (run_lss ..) rfl (VOK_ite rfl (fun h => ?_) (fun h => ?_))
       | refine VOK_lt (run_leq ..) rfl (VOK_ite rfl (fun h => ?_) (fun h => ?_))
       | refine VOK_lt (run_gtr ..) rfl (VOK_ite rfl (fun h => ?_) (fun h => ?_)))
     ·(refine callF' (h2 _ _ hn (by decide)) rfl (okQ hA) ⟨?_, trivial⟩; intro ws hw; obtain ⟨⟨op, kd, nm, fd, ad, nn, vk, vi, vf, args⟩, n, rfl, hx, hn⟩ := hw; replace hx := WX_mono (e := 5) (by decide) hx); (refine callF' (h2 _ _ hn (by decide)) rfl (okQ hA) ⟨?_, trivial⟩; intro ws hw; obtain ⟨⟨op, kd, nm, fd, ad, nn, vk, vi, vf, args⟩, n, rfl, hx, hn⟩ := hw; replace hx := WX_mono (e := 5) (by decide) hx); exact finS (x := .mk _ (.mk _ _ _ _ _ _ _ _ _ []) (.mk _ _ _ _ _ _ _ _ _ []) [] [] _ _ _ [.mk _ _ _ _ _ _ _ _ _ _, .mk _ _ _ _ _ _ _ _ _ _]) rfl (WS_call (by decide) (by simp) (all2 (by assumption) (by assumption))) hn
     (first
       | refine VOK_lt (run_eql ..) rfl (VOK_ite rfl (fun h => ?_) (fun h => ?_))
       | refine VOK_lt (run_neq ..) rfl (VOK_ite rfl (fun h => ?_) (fun h => ?_))
       | refine VOK_lt (run_lss ..) rfl (VOK_ite rfl (fun h => ?_) (fun h => ?_))
       | refine VOK_lt (run_leq ..) rfl (VOK_ite rfl (fun h => ?_) (fun h => ?_))
       | refine VOK_lt (run_gtr ..) rfl (VOK_ite rfl (fun h => ?_) (fun h => ?_)))
     ·(refine callF' (h2 _ _ hn (by decide)) rfl (okQ hA) ⟨?_, trivial⟩; intro ws hw; obtain ⟨⟨op, kd, nm, fd, ad, nn, vk, vi, vf, args⟩, n, rfl, hx, hn⟩ := hw; replace hx := WX_mono (e := 5) (by decide) hx); (refine callF' (h31 _ _ hn (by decide)) rfl (okQ hA) ⟨?_, trivial⟩; intro ws hw; obtain ⟨⟨op, kd, nm, fd, ad, nn, vk, vi, vf, args⟩, n, rfl, hx, hn⟩ := hw; replace hx := WX_mono (e := 5) (by decide) hx); exact finS (x := .mk _ (.mk _ _ _ _ _ _ _ _ _ []) (.mk _ _ _ _ _ _ _ _ _ []) [] [] _ _ _ [.mk _ _ _ _ _ _ _ _ _ _, .mk _ _ _ _ _ _ _ _ _ _]) rfl (WS_call (by decide) (by simp) (all2 (by assumption) (by assumption))) hn
     (first
       | refine VOK_lt (run_eql ..) rfl (VOK_ite rfl (fun h => ?_) (fun h => ?_))
       | refine VOK_lt (run_neq ..) rfl (VOK_ite rfl (fun h => ?_) (fun h => ?_))
       | refine VOK_lt (run_lss ..) rfl (VOK_ite rfl (fun h => ?_) (fun h => ?_))
       | refine VOK_lt (run_leq ..) rfl (VOK_ite rfl (fun h => ?_) (fun h => ?_))
       | refine VOK_lt (run_gtr ..) rfl (VOK_ite rfl (fun h => ?_) (fun h => ?_)))
     ·(refine callF' (h2 _ _ hn (by decide)) rfl (okQ hA) ⟨?_, trivial⟩; intro ws hw; obtain ⟨⟨op, kd, nm, fd, ad, nn, vk, vi, vf, args⟩, n, rfl, hx, hn⟩ := hw; replace hx := WX_mono (e := 5) (by decide) hx); exact finS (x := .mk _ (.mk _ _ _ _ _ _ _ _ _ []) (.mk _ _ _ _ _ _ _ _ _ []) [] [] _ _ _ [.mk _ _ _ _ _ _ _ _ _ _]) rfl (WS_call (by decide) (by simp) (all1 (by assumption))) hn
     (first
       | refine VOK_lt (run_eql ..) rfl (VOK_ite rfl (fun h => ?_) (fun h => ?_))
       | refine VOK_lt (run_neq ..) rfl (VOK_ite rfl (fun h => ?_) (fun h => ?_))
       | refine VOK_lt (run_lss ..) rfl (VOK_ite rfl (fun h => ?_) (fun h => ?_))
       | refine VOK_lt (run_leq ..) rfl (VOK_ite rfl (fun h => ?_) (fun h => ?_))
       | refine VOK_lt (run_gtr ..) rfl (VOK_ite rfl (fun h => ?_) (fun h => ?_)))
     ·(refine callF' (h2 _ _ hn (by first | decide | (simp only [decide_eq_true_eq, decide_eq_false_iff_not] at *; omega))) rfl (okQ hA) ⟨?_, trivial⟩; intro ws hw; obtain ⟨⟨op, kd, nm, fd, ad, nn, vk, vi, vf, args⟩, n, rfl, hx, hn⟩ := hw); rename WX _ _ => hx0; (refine callF' (h3 _ _ hn (by decide)) rfl (okQ hA) ⟨?_, trivial⟩; intro ws hw; obtain ⟨⟨op, kd, nm, fd, ad, nn, vk, vi, vf, args⟩, n, rfl, hx, hn⟩ := hw; replace hx := WX_mono (e := 5) (by decide) hx)
      exact finS (x := .mk _ (.mk _ _ _ _ _ _ _ _ _ [.mk _ _ _ _ _ _ _ _ _ _]) (.mk _ _ _ _ _ _ _ _ _ _) [] [] _ _ _ []) rfl (WS_set (WX_mono (d := 4) (by decide) (WX_1 (by decide) hx0)) (.inr rfl) (by assumption)) hn
     ·(refine callF' (p64i hp hn (by first | decide | omega) (by first | decide | omega)) rfl (okP hA) ⟨?_, trivial⟩; intro ws hw; rcases hw with ⟨v, n, rfl, hv, hn⟩)
      have e6 : v = 0 ∨ v = 1 ∨ v = 2 ∨ v = 3 ∨ v = 4 ∨ v = 5 := by omega
      rcases e6 with rfl | rfl | rfl | rfl | rfl | rfl
      all_goals
       refine VOK_lt rfl rfl (VOK_lt rfl rfl (VOK_lt rfl rfl (VOK_call (p82 _) rfl rfl ?_)))
       (refine callF' (h4 _ _ hn (by decide)) rfl (okQ hA) ⟨?_, trivial⟩; intro ws hw; obtain ⟨⟨op, kd, nm, fd, ad, nn, vk, vi, vf, args⟩, n, rfl, hx, hn⟩ := hw; replace hx := WX_mono (e := 5) (by decide) hx)
       exact finS (x := .mk _ (.mk _ _ _ _ _ _ _ _ _ []) (.mk _ _ _ _ _ _ _ _ _ _) [] [] _ _ _ []) rfl (WS_set (mk_name (by decide)) (.inl rfl) (by assumption)) hn))
theorem p38 {l : List UInt8} {a : AV} (hp : Pk l a) (d : Nat) (hd2 : d ≤ 100) (hS : PS l a d) : PB l a d := by
 intro n m hn hm1 hm2
 have hA := hp.1.ok okC8
 refine cf_tree (c := c38) (n := 300) (t := t38) mo ov rfl (fun Y _ => known0 _) (by kernel_rfl) fun Y hf hg => ?_
 unfold t38
 (refine callF' (p64i hp hn (by first | decide | omega) (by first | decide | omega)) rfl (okP hA) ⟨?_, trivial⟩; intro ws hw; rcases hw with ⟨v, n, rfl, hv, hn⟩)
 refine VOK_lt (add_c (by omega) (by omega)) rfl ?_
 refine VOK_loop (ι := Nat × List GS × Nat) (fun x => [.int .i64 (x.1 : Int), encB x.2.1, .int .i64 (x.2.2 : Int)]) (fun x => x.1 + x.2.1.length ≤ m ∧ (∀ s ∈ x.2.1, WS (d + 1) s) ∧ x.2.2 ≤ l.length) (fun x => x.1) (v + 1, [], n)
  ⟨by simp; omega, fun s hs => (List.not_mem_nil hs).elim, hn⟩ rfl (fun x _ => by simp only [okL, okC, okB]) (fun x y _ _ h => by simp at h; omega) (fun x hx => ?_)
 obtain ⟨i, ss, n⟩ := x
 obtain ⟨h1, h2, hn⟩ := hx
 simp only at h1 hn h2 ⊢
 (first
   | refine VOK_lt (run_eql ..) rfl (VOK_ite rfl (fun h => ?_) (fun h => ?_))
   | refine VOK_lt (run_neq ..) rfl (VOK_ite rfl (fun h => ?_) (fun h => ?_))
   | refine VOK_lt (run_lss ..) rfl (VOK_ite rfl (fun h => ?_) (fun h => ?_))
   | refine VOK_lt (run_leq ..) rfl (VOK_ite rfl (fun h => ?_) (fun h => ?_))
   | refine VOK_lt (run_gtr ..) rfl (VOK_ite rfl (fun h => ?_) (fun h => ?_)))
 ·refine callF' (hS _ hn) rfl (okP hA) ⟨?_, trivial⟩
  rintro ws ⟨⟨op, ⟨op1, kd1, nm1, fd1, ad1, nn1, vk1, vi1, vf1, args1⟩, ⟨op2, kd2, nm2, fd2, ad2, nn2, vk2, vi2, vf2, args2⟩, thn, els, nm, kd, ad, args⟩, n, rfl, hx, hn⟩
  refine VOK_lt (run_app27 ss (.mk op (.mk op1 kd1 nm1 fd1 ad1 nn1 vk1 vi1 vf1 args1) (.mk op2 kd2 nm2 fd2 ad2 nn2 vk2 vi2 vf2 args2) thn els nm kd ad args) (by omega)) (okB _) ?_
  obtain ⟨i, rfl⟩ : ∃ e, i = e + 1 := ⟨i - 1, by simp at h; omega⟩
  refine VOK_lt (sub_c (z := (i : Int)) (by omega) (by omega) (by omega)) rfl ?_
  refine VOK_again rfl ⟨(i, ss ++ [_], n), ⟨?_, ?_, hn⟩, rfl, by simp⟩
  ·simp; omega
  ·intro s hs
   rcases List.mem_append.1 hs with hs | hs
   ·exact h2 s hs
   ·cases List.mem_singleton.1 hs; exact hx
 ·exact VOK_fin (by show okL [encB ss, .int .i64 (n : Int)] = true; simp only [okL, okC, okB]) ⟨ss, n, rfl, ⟨by omega, h2⟩, hn⟩
theorem pS {l : List UInt8} {a : AV} (hp : Pk l a) : ∀ d : Nat, d ≤ 100 → PS l a d ∧ PB l a d
 | 0, h => by
   have h1 := p65 hp 0 h (fun e h => by omega)
   exact ⟨h1, p38 hp 0 h h1⟩
 | d + 1, h => by
   have ih := pS hp d (by omega)
   have h1 := p65 hp (d + 1) h (fun e h => by cases h; exact ih.2)
   exact ⟨h1, p38 hp (d + 1) h h1⟩
end Go.Proofs.Ytjconanknjgpnaa.vars
