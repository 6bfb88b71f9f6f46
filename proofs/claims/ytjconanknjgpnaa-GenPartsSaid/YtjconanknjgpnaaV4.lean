/-
  The check of expressions: names, numbers, elements.
-/
import Derived.Test.YtjconanknjgpnaaV2
import Derived.Test.YtjconanknjgpnaaSyU
set_option maxRecDepth 100000
set_option linter.unusedVariables false
set_option linter.unusedSimpArgs false
namespace Go.Proofs.Ytjconanknjgpnaa.vars
open Go Go.Sx
def VARS : AV := .vsl 12 10 [.str [97], .int .i64 1, .int .i64 2, .int .i64 0, .int .i64 2, .int .i64 0, .flt .f64 0, .int .i64 0, .int .i64 0, .flt .f64 0, .str [98], .int .i64 1, .int .i64 1, .int .i64 0, .int .i64 1, .int .i64 0, .flt .f64 0, .int .i64 0, .int .i64 0, .flt .f64 0, .str [111], .int .i64 2, .int .i64 2, .int .i64 0, .int .i64 2, .int .i64 0, .flt .f64 0, .int .i64 2, .int .i64 7, .flt .f64 0, .str [113], .int .i64 2, .int .i64 1, .int .i64 0, .int .i64 1, .int .i64 0, .flt .f64 0, .int .i64 1, .int .i64 1, .flt .f64 0, .str [120], .int .i64 3, .int .i64 2, .int .i64 0, .int .i64 2, .int .i64 5, .flt .f64 0, .int .i64 0, .int .i64 0, .flt .f64 0, .str [121], .int .i64 3, .int .i64 3, .int .i64 0, .int .i64 3, .int .i64 0, .flt .f64 0, .int .i64 0, .int .i64 0, .flt .f64 0, .str [122], .int .i64 3, .int .i64 5, .int .i64 0, .int .i64 5, .int .i64 0, .flt .f64 0, .int .i64 0, .int .i64 0, .flt .f64 0, .str [119], .int .i64 3, .int .i64 4, .int .i64 0, .int .i64 4, .int .i64 0, .flt .f64 0, .int .i64 0, .int .i64 0, .flt .f64 0, .str [107], .int .i64 3, .int .i64 2, .int .i64 4, .int .i64 2, .int .i64 0, .flt .f64 0, .int .i64 0, .int .i64 0, .flt .f64 0, .str [116, 109], .int .i64 3, .int .i64 6, .int .i64 0, .int .i64 0, .int .i64 0, .flt .f64 0, .int .i64 0, .int .i64 0, .flt .f64 0, .str [99], .int .i64 3, .int .i64 9, .int .i64 0, .int .i64 0, .int .i64 0, .flt .f64 0, .int .i64 0, .int .i64 0, .flt .f64 0, .str [101], .int .i64 3, .int .i64 11, .int .i64 0, .int .i64 0, .int .i64 0, .flt .f64 0, .int .i64 0, .int .i64 0, .flt .f64 0]
theorem k88_97 : Pure Try.prog 88 [VARS, .str [97]] (.tup [.agg [.str [97], .int .i64 1, .int .i64 2, .int .i64 0, .int .i64 2, .int .i64 0, .flt .f64 0, .int .i64 0, .int .i64 0, .flt .f64 0], .int .i64 0, .bool true]) := memo_ok mo ov (n := 3000) (by kernel_rfl)
theorem k88_98 : Pure Try.prog 88 [VARS, .str [98]] (.tup [.agg [.str [98], .int .i64 1, .int .i64 1, .int .i64 0, .int .i64 1, .int .i64 0, .flt .f64 0, .int .i64 0, .int .i64 0, .flt .f64 0], .int .i64 1, .bool true]) := memo_ok mo ov (n := 3000) (by kernel_rfl)
theorem k88_111 : Pure Try.prog 88 [VARS, .str [111]] (.tup [.agg [.str [111], .int .i64 2, .int .i64 2, .int .i64 0, .int .i64 2, .int .i64 0, .flt .f64 0, .int .i64 2, .int .i64 7, .flt .f64 0], .int .i64 2, .bool true]) := memo_ok mo ov (n := 3000) (by kernel_rfl)
theorem k88_113 : Pure Try.prog 88 [VARS, .str [113]] (.tup [.agg [.str [113], .int .i64 2, .int .i64 1, .int .i64 0, .int .i64 1, .int .i64 0, .flt .f64 0, .int .i64 1, .int .i64 1, .flt .f64 0], .int .i64 3, .bool true]) := memo_ok mo ov (n := 3000) (by kernel_rfl)
theorem k88_120 : Pure Try.prog 88 [VARS, .str [120]] (.tup [.agg [.str [120], .int .i64 3, .int .i64 2, .int .i64 0, .int .i64 2, .int .i64 5, .flt .f64 0, .int .i64 0, .int .i64 0, .flt .f64 0], .int .i64 4, .bool true]) := memo_ok mo ov (n := 3000) (by kernel_rfl)
theorem k88_121 : Pure Try.prog 88 [VARS, .str [121]] (.tup [.agg [.str [121], .int .i64 3, .int .i64 3, .int .i64 0, .int .i64 3, .int .i64 0, .flt .f64 0, .int .i64 0, .int .i64 0, .flt .f64 0], .int .i64 5, .bool true]) := memo_ok mo ov (n := 3000) (by kernel_rfl)
theorem k88_122 : Pure Try.prog 88 [VARS, .str [122]] (.tup [.agg [.str [122], .int .i64 3, .int .i64 5, .int .i64 0, .int .i64 5, .int .i64 0, .flt .f64 0, .int .i64 0, .int .i64 0, .flt .f64 0], .int .i64 6, .bool true]) := memo_ok mo ov (n := 3000) (by kernel_rfl)
theorem k88_119 : Pure Try.prog 88 [VARS, .str [119]] (.tup [.agg [.str [119], .int .i64 3, .int .i64 4, .int .i64 0, .int .i64 4, .int .i64 0, .flt .f64 0, .int .i64 0, .int .i64 0, .flt .f64 0], .int .i64 7, .bool true]) := memo_ok mo ov (n := 3000) (by kernel_rfl)
theorem k88_107 : Pure Try.prog 88 [VARS, .str [107]] (.tup [.agg [.str [107], .int .i64 3, .int .i64 2, .int .i64 4, .int .i64 2, .int .i64 0, .flt .f64 0, .int .i64 0, .int .i64 0, .flt .f64 0], .int .i64 8, .bool true]) := memo_ok mo ov (n := 3000) (by kernel_rfl)
theorem k88_116_109 : Pure Try.prog 88 [VARS, .str [116, 109]] (.tup [.agg [.str [116, 109], .int .i64 3, .int .i64 6, .int .i64 0, .int .i64 0, .int .i64 0, .flt .f64 0, .int .i64 0, .int .i64 0, .flt .f64 0], .int .i64 12, .bool true]) := memo_ok mo ov (n := 3000) (by kernel_rfl)
theorem k88_99 : Pure Try.prog 88 [VARS, .str [99]] (.tup [.agg [.str [99], .int .i64 3, .int .i64 9, .int .i64 0, .int .i64 0, .int .i64 0, .flt .f64 0, .int .i64 0, .int .i64 0, .flt .f64 0], .int .i64 16, .bool true]) := memo_ok mo ov (n := 3000) (by kernel_rfl)
theorem k88_101 : Pure Try.prog 88 [VARS, .str [101]] (.tup [.agg [.str [101], .int .i64 3, .int .i64 11, .int .i64 0, .int .i64 0, .int .i64 0, .flt .f64 0, .int .i64 0, .int .i64 0, .flt .f64 0], .int .i64 19, .bool true]) := memo_ok mo ov (n := 3000) (by kernel_rfl)
theorem k95_116_109_46_113 : Pure Try.prog 95 [VARS, .str [116, 109, 46, 113]] (.tup [.agg [.str [116, 109, 46, 113], .int .i64 12, .int .i64 1, .int .i64 3], .bool true]) := memo_ok mo ov (n := 3000) (by kernel_rfl)
theorem k95_99_46_99_118 : Pure Try.prog 95 [VARS, .str [99, 46, 99, 118]] (.tup [.agg [.str [99, 46, 99, 118], .int .i64 17, .int .i64 2, .int .i64 3], .bool true]) := memo_ok mo ov (n := 3000) (by kernel_rfl)
theorem k95_116_109_46_101_116 : Pure Try.prog 95 [VARS, .str [116, 109, 46, 101, 116]] (.tup [.agg [.str [116, 109, 46, 101, 116], .int .i64 13, .int .i64 4, .int .i64 3], .bool true]) := memo_ok mo ov (n := 3000) (by kernel_rfl)
theorem k35 : Pure Try.prog 35 [VARS] (.int .i64 0) := memo_ok mo ov (n := 3000) (by kernel_rfl)
theorem k37 : Pure Try.prog 37 [] VARS := memo_ok mo ov (n := 3000) (by kernel_rfl)
theorem k67 (v : Nat) (h : v < 50) : Pure Try.prog 67 [.int .i64 2, .int .i64 (v : Int)] (.int .i64 (v : Int)) := by
 have : ∀ v ∈ List.range 50, Pure Try.prog 67 [.int .i64 2, .int .i64 (v : Int)] (.int .i64 (v : Int)) := by
  simp only [List.range, List.range.loop, List.forall_mem_cons]
  repeat' apply And.intro
  all_goals first | exact (fun x hx => (List.not_mem_nil hx).elim) | exact memo_ok mo ov (n := 3000) (by kernel_rfl)
 exact this v (List.mem_range.2 h)
theorem k46_1 : Pure Try.prog 46 [.int .i64 1] (.int .i64 1) := memo_ok mo ov (n := 3000) (by kernel_rfl)
theorem k46_2 : Pure Try.prog 46 [.int .i64 2] (.int .i64 1) := memo_ok mo ov (n := 3000) (by kernel_rfl)
theorem k46_3 : Pure Try.prog 46 [.int .i64 3] (.int .i64 1) := memo_ok mo ov (n := 3000) (by kernel_rfl)
theorem k46_4 : Pure Try.prog 46 [.int .i64 4] (.int .i64 1) := memo_ok mo ov (n := 3000) (by kernel_rfl)
theorem k46_5 : Pure Try.prog 46 [.int .i64 5] (.int .i64 1) := memo_ok mo ov (n := 3000) (by kernel_rfl)
theorem k46_6 : Pure Try.prog 46 [.int .i64 6] (.int .i64 4) := memo_ok mo ov (n := 3000) (by kernel_rfl)
theorem k46_9 : Pure Try.prog 46 [.int .i64 9] (.int .i64 3) := memo_ok mo ov (n := 3000) (by kernel_rfl)
theorem k46_11 : Pure Try.prog 46 [.int .i64 11] (.int .i64 2) := memo_ok mo ov (n := 3000) (by kernel_rfl)
def c92 : VC := ⟨⟨[], []⟩, [], [], 0, true, []⟩
def t92 : VT :=
 (.ite 64
 (.done (.int .i64 0))
 (.done (.int .i64 4)))
def c45 : VC := ⟨⟨[], []⟩, [], [], 0, true, []⟩
def t45 : VT :=
 (.lt (.bin .eql 3 false true) [.sym 64, .int .i64 2] 65 none
 (.ite 65
 (.done (.bool true))
 (.lt (.bin .eql 3 false true) [.sym 64, .int .i64 3] 66 none
 (.ite 66
 (.done (.bool true))
 (.lt (.bin .eql 3 false true) [.sym 64, .int .i64 4] 67 none
 (.done (.sym 67)))))))
def c89 : VC := ⟨⟨[], []⟩, [(67, [none])], [], 0, true, []⟩
def t89 : VT :=
 (.lt (.bin .eql 3 false true) [.sym 74, .int .i64 2] 75 none
 (.ite 75
 (.lt (.bin .eql 3 false true) [.sym 64, .int .i64 1] 76 none
 (.ite 76
 (.lt (.bin .eql 3 false true) [.sym 65, .int .i64 3] 77 none
 (.ite 77
 (.call 67 [.int .i64 2, .sym 71] 78 [none]
 (.done (.agg [.sym 64, .int .i64 2, .sym 66, .sym 67, .sym 68, .sym 69, .int .i64 2, .sym 78, .flt .f64 0, .sym 73])))
 (.done (.agg [.sym 64, .sym 65, .sym 66, .sym 67, .sym 68, .sym 69, .sym 70, .sym 71, .sym 72, .sym 73]))))
 (.done (.agg [.sym 64, .sym 65, .sym 66, .sym 67, .sym 68, .sym 69, .sym 70, .sym 71, .sym 72, .sym 73]))))
 (.done (.agg [.sym 64, .sym 65, .sym 66, .sym 67, .sym 68, .sym 69, .sym 70, .sym 71, .sym 72, .sym 73]))))
def c90 : VC := ⟨⟨[], []⟩, [(88, [(some 10), none, none]), (95, [(some 4), none]), (46, [none]), (92, [none])], [], 0, true, []⟩
def t90 : VT :=
 (.call 88 [.sym 64, .sym 67] 75 [(some 10), none, none]
 (.lt (.un .not) [.sym 86] 87 none
 (.ite 87
 (.done (.tup [.int .i64 0, .sym 65, .sym 66, .sym 67, .sym 68, .sym 69, .sym 70, .sym 71, .sym 72, .sym 73, .sym 74, .int .i64 3]))
 (.lt (.bin .eql 9 false true) [.sym 68, .str []] 88 none
 (.ite 88
 (.call 46 [.sym 77] 89 [none]
 (.lt (.bin .eql 3 false true) [.sym 89, .int .i64 1] 90 none
 (.ite 90
 (.lt (.bin .eql 3 false true) [.sym 78, .int .i64 0] 91 none
 (.call 92 [.sym 91] 92 [none]
 (.done (.tup [.int .i64 0, .sym 65, .sym 77, .sym 67, .sym 68, .sym 85, .sym 70, .sym 71, .sym 72, .sym 73, .sym 74, .sym 92]))))
 (.call 92 [.bool false] 91 [none]
 (.done (.tup [.int .i64 0, .sym 65, .sym 77, .sym 67, .sym 68, .sym 85, .sym 70, .sym 71, .sym 72, .sym 73, .sym 74, .sym 91]))))))
 (.call 46 [.sym 77] 89 [none]
 (.lt (.bin .lss 3 false true) [.sym 89, .int .i64 2] 90 none
 (.ite 90
 (.done (.tup [.int .i64 0, .sym 65, .sym 66, .sym 67, .sym 68, .sym 69, .sym 70, .sym 71, .sym 72, .sym 73, .sym 74, .int .i64 4]))
 (.lt (.bin .add 9 false true) [.sym 67, .str [46]] 91 none
 (.lt (.bin .add 9 false false) [.sym 91, .sym 68] 92 none
 (.call 95 [.sym 64, .sym 92] 93 [(some 4), none]
 (.lt (.un .not) [.sym 97] 98 none
 (.ite 98
 (.done (.tup [.int .i64 0, .sym 65, .sym 66, .sym 67, .sym 68, .sym 69, .sym 70, .sym 71, .sym 72, .sym 73, .sym 74, .int .i64 3]))
 (.done (.tup [.int .i64 0, .sym 65, .sym 95, .sym 67, .sym 68, .sym 94, .sym 70, .sym 71, .sym 72, .sym 73, .sym 74, .int .i64 0])))))))))))))))
def c91 : VC := ⟨⟨[], []⟩, [(88, [(some 10), none, none]), (92, [none])], [], 0, true, []⟩
def t91 : VT :=
 (.call 88 [.sym 64, .sym 67] 76 [(some 10), none, none]
 (.lt (.un .not) [.sym 87] 88 none
 (.ite 88
 (.done (.tup [.int .i64 0, .sym 65, .sym 66, .sym 67, .sym 68, .sym 69, .sym 70, .sym 71, .sym 72, .sym 73, .sym 74, .int .i64 3]))
 (.lt (.bin .gtr 3 false true) [.sym 79, .int .i64 0] 89 none
 (.ite 89
 (.lt (.iaddr 38) [.sym 75, .int .i64 0] 90 none
 (.lt (.faddr 40 1) [.sym 90] 91 none
 (.lt (.load 3) [.sym 91] 92 none
 (.lt (.bin .eql 3 false true) [.sym 92, .int .i64 2] 93 none
 (.ite 93
 (.call 92 [.bool true] 94 [none]
 (.done (.tup [.int .i64 0, .sym 65, .sym 78, .sym 67, .sym 68, .sym 86, .sym 79, .sym 71, .sym 72, .sym 73, .sym 75, .sym 94])))
 (.lt (.iaddr 38) [.sym 75, .int .i64 0] 94 none
 (.lt (.faddr 40 1) [.sym 94] 95 none
 (.lt (.load 3) [.sym 95] 96 none
 (.lt (.bin .eql 3 false true) [.sym 96, .int .i64 3] 97 none
 (.call 92 [.sym 97] 98 [none]
 (.done (.tup [.int .i64 0, .sym 65, .sym 78, .sym 67, .sym 68, .sym 86, .sym 79, .sym 71, .sym 72, .sym 73, .sym 75, .sym 98]))))))))))))
 (.call 92 [.bool false] 90 [none]
 (.done (.tup [.int .i64 0, .sym 65, .sym 78, .sym 67, .sym 68, .sym 86, .sym 79, .sym 71, .sym 72, .sym 73, .sym 75, .sym 90]))))))))
theorem p92 (b : Bool) : Pure Try.prog 92 [.bool b] (.int .i64 (if b = true then 0 else 4)) := by
 refine pure_shape (sh := [none]) (ls := [.bool b]) (c := c92) (n := 300) (t := t92) mo ov rfl rfl rfl (fun Y _ => known0 _) rfl (by kernel_rfl) fun Y hf hg => ?_
 unfold t92
 refine VOK_ite rfl (fun h => VOK_done ?_) (fun h => VOK_done ?_)
 ·rw [h]; rfl
 ·rw [h]; rfl
section
variable {P : Program} {Q : AV → Prop} {L : List (Nat → List AV → Prop)} {Y : Sy} {t : TypeId} {cx cy : Bool} {args : List AV} {n : Nat} {A B : VT} {k : IntKind} {a b : Int}
theorem it_eq (h0 : denL Y.v args = [.int k a, .int k b]) (h1 : a = b → VOK P Q L (Y.put n (.bool (decide (a = b)))) A) (h2 : ¬ a = b → VOK P Q L (Y.put n (.bool (decide (a = b)))) B) : VOK P Q L Y (.lt (.bin .eql t cx cy) args n none (.ite n A B)) :=
 VOK_lt (by rw [h0]; exact run_eql ..) rfl (VOK_ite (t := decide (a = b)) (by rw [put_v, if_pos rfl]) (fun h => h1 (of_decide_eq_true h)) (fun h => h2 (of_decide_eq_false h)))
def Cmp : BinOp → Int → Int → Prop
 | .eql, a, b => a = b
 | .neq, a, b => ¬ a = b
 | .lss, a, b => a < b
 | .gtr, a, b => b < a
 | .leq, a, b => a ≤ b
 | .geq, a, b => b ≤ a
 | _, _, _ => False
open Classical in
theorem it_c {op : BinOp} (h0 : denL Y.v args = [.int k a, .int k b]) (ho : (match op with | .eql => true | .neq => true | .lss => true | .gtr => true | .leq => true | .geq => true | _ => false) = true)
  (h1 : Cmp op a b → VOK P Q L (Y.put n (.bool (decide (Cmp op a b)))) A) (h2 : ¬ Cmp op a b → VOK P Q L (Y.put n (.bool (decide (Cmp op a b)))) B) : VOK P Q L Y (.lt (.bin op t cx cy) args n none (.ite n A B)) := by
 have hr : (XOp.bin op t cx cy).run P [.int k a, .int k b] = some (.bool (decide (Cmp op a b))) := by
  cases op <;> simp only at ho <;> first | (cases ho; done) | skip
  ·rw [run_eql]; refine congrArg (fun x => some (AV.bool x)) ?_; by_cases h : a = b <;> simp [Cmp, h]
  ·rw [run_neq]; refine congrArg (fun x => some (AV.bool x)) ?_; by_cases h : a = b <;> simp [Cmp, h]
  ·rw [run_lss]; refine congrArg (fun x => some (AV.bool x)) ?_; by_cases h : a < b <;> simp [Cmp, h]
  ·rw [run_leq]; refine congrArg (fun x => some (AV.bool x)) ?_; by_cases h : a ≤ b <;> simp [Cmp, h]
  ·rw [run_gtr]; refine congrArg (fun x => some (AV.bool x)) ?_; by_cases h : b < a <;> simp [Cmp, h]
  ·rw [run_geq]; refine congrArg (fun x => some (AV.bool x)) ?_; by_cases h : b ≤ a <;> simp [Cmp, h]
 exact VOK_lt (by rw [h0]; exact hr) rfl (VOK_ite (t := decide (Cmp op a b)) (by rw [put_v, if_pos rfl]) (fun h => h1 (of_decide_eq_true h)) (fun h => h2 (of_decide_eq_false h)))
end
def cellsL : List (Int × Int) := [(1, 1), (3, 1), (12, 1), (0, 2), (4, 2), (2, 2), (17, 2), (5, 3), (13, 4), (7, 4), (6, 5)]
def KX (op kd ad n vk vi : Int) (vf : Nat) (ks : List Int) : Prop :=
 (op = 1 → kd = vk ∧ 1 ≤ vk ∧ vk ≤ 5 ∧ 0 ≤ vi ∧ vi < 50 ∧ (vk = 1 → vi ≤ 1) ∧ (vk = 5 → vi = 0) ∧ (vk ≠ 5 → vf = 0)) ∧
 (op = 2 → (ad, kd) ∈ cellsL) ∧
 (op = 3 → ad = 8 ∧ n = 4 ∧ kd = 2 ∧ ∃ k, ks = [k] ∧ (k = 2 ∨ k = 3)) ∧
 (4 ≤ op ∧ op ≤ 14 → ∃ k, ks = [k, k] ∧ 1 ≤ k ∧ k ≤ 5 ∧ (op ≤ 8 → kd = k ∧ k ≠ 1) ∧ (9 ≤ op → kd = 1) ∧ (op = 8 → k ≠ 5) ∧ (op = 11 ∨ op = 12 → k ≠ 1) ∧ (13 ≤ op → k = 1)) ∧
 (op = 15 → kd = 1 ∧ ks = [1]) ∧
 (op = 16 → ks = [kd] ∧ 2 ≤ kd ∧ kd ≤ 5) ∧
 (op = 17 → 2 ≤ kd ∧ kd ≤ 5 ∧ ∃ k, ks = [k] ∧ 2 ≤ k ∧ k ≤ 5)
def TX : Nat → GX → Prop
 | 0, _ => False
 | d + 1, .mk op kd nm fd ad n vk vi vf args => Ari op args.length ∧ Flt4 vf ∧ 1 ≤ kd ∧ kd ≤ 5 ∧ KX op kd ad n vk vi vf (args.map GX.kd) ∧ ∀ a ∈ args, TX d a
theorem TX_mono : ∀ {d e : Nat} {x : GX}, d ≤ e → TX d x → TX e x
 | 0, _, _, _, h => h.elim
 | d + 1, 0, _, h, _ => by omega
 | d + 1, e + 1, .mk .., h, ⟨h1, h2, h3, h4, h5, h6⟩ => ⟨h1, h2, h3, h4, h5, fun a ha => TX_mono (by omega) (h6 a ha)⟩
theorem TX_kd : ∀ {d : Nat} {x : GX}, TX d x → 1 ≤ x.kd ∧ x.kd ≤ 5
 | 0, _, h => h.elim
 | d + 1, .mk .., h => ⟨h.2.2.1, h.2.2.2.1⟩
theorem okC_noRef_agg {l : List AV} (h : okL l = true) : noRef (.agg l) = true := by simp only [noRef]; exact okL_noRef h
theorem p89 {d : Nat} (x : GX) (k : Int) (hx : TX d x) : ∃ y, Pure Try.prog 89 [.agg (encX x), .int .i64 k] (.agg (encX y)) ∧ TX d y := by
 obtain ⟨op, kd, nm, fd, ad, n, vk, vi, vf, args⟩ := x
 obtain ⟨d, rfl⟩ : ∃ e, d = e + 1 := by cases d with | zero => exact hx.elim | succ d => exact ⟨d, rfl⟩
 by_cases hc : k = 2 ∧ op = 1 ∧ kd = 3
 ·obtain ⟨rfl, rfl, rfl⟩ := hc
  obtain ⟨h1, h2, h3, h4, h5, h6⟩ := hx
  obtain ⟨q1, q2, q3, q4, q5, q6, q7, q8⟩ := h5.1 rfl
  obtain ⟨v, rfl⟩ : ∃ v : Nat, vi = (v : Int) := ⟨vi.toNat, by omega⟩
  refine ⟨.mk 1 2 nm fd ad n 2 v 0 args, ?_, h1, .inl rfl, by decide, by decide, ⟨fun _ => ⟨rfl, by decide, by decide, q4, q5, fun h => by omega, fun h => by omega, fun _ => rfl⟩, fun h => by omega, fun h => by omega, fun h => by omega, fun h => by omega, fun h => by omega, fun h => by omega⟩, h6⟩
  refine pure_shape (sh := [some 10, none]) (ls := encX (.mk 1 3 nm fd ad n vk v vf args) ++ [.int .i64 2]) (c := c89) (n := 300) (t := t89) mo ov rfl (okXn _ _) (okC_noRef_agg (okX _)) (fun Y _ => known0 _) rfl (by kernel_rfl) fun Y hf hg => ?_
  unfold t89
  (refine it_c rfl rfl (fun h => ?_) (fun h => ?_) <;> simp only [Cmp, Decidable.not_not, Int.not_lt, Int.not_le] at h <;> try (exfalso; first | exact h trivial | omega)); (refine it_c rfl rfl (fun h => ?_) (fun h => ?_) <;> simp only [Cmp, Decidable.not_not, Int.not_lt, Int.not_le] at h <;> try (exfalso; first | exact h trivial | omega)); (refine it_c rfl rfl (fun h => ?_) (fun h => ?_) <;> simp only [Cmp, Decidable.not_not, Int.not_lt, Int.not_le] at h <;> try (exfalso; first | exact h trivial | omega))
  refine VOK_call (k67 v (by omega)) rfl rfl (VOK_done rfl)
 ·refine ⟨_, ?_, hx⟩
  refine pure_shape (sh := [some 10, none]) (ls := encX (.mk op kd nm fd ad n vk vi vf args) ++ [.int .i64 k]) (c := c89) (n := 300) (t := t89) mo ov rfl (okXn _ _) (okC_noRef_agg (okX _)) (fun Y _ => known0 _) rfl (by kernel_rfl) fun Y hf hg => ?_
  unfold t89
  (refine it_c rfl rfl (fun h => ?_) (fun h => ?_) <;> simp only [Cmp, Decidable.not_not, Int.not_lt, Int.not_le] at h <;> try (exfalso; first | exact h trivial | omega))
  ·(refine it_c rfl rfl (fun h => ?_) (fun h => ?_) <;> simp only [Cmp, Decidable.not_not, Int.not_lt, Int.not_le] at h <;> try (exfalso; first | exact h trivial | omega))
   ·(refine it_c rfl rfl (fun h => ?_) (fun h => ?_) <;> simp only [Cmp, Decidable.not_not, Int.not_lt, Int.not_le] at h <;> try (exfalso; first | exact h trivial | omega))
    exact VOK_done rfl
   ·exact VOK_done rfl
  ·exact VOK_done rfl
def RL (x : GX) : Nat → List AV → Prop := fun _ ws => ∃ ad kd : Int, ws = (match x with | .mk op _ nm fd _ n vk vi vf args => encX (.mk op kd nm fd ad n vk vi vf args)) ++ [.int .i64 0] ∧ (ad, kd) ∈ cellsL
theorem p90 (op kd : Int) (nm fd : List UInt8) (ad n vk vi : Int) (vf : Nat) (args : List GX) (h : (nm, fd) ∈ loads) : CF Try.prog 90 ft90 (VARS :: encX (.mk op kd nm fd ad n vk vi vf args)) (RL (.mk op kd nm fd ad n vk vi vf args)) := by
 refine cf_tree (c := c90) (n := 300) (t := t90) mo ov rfl (fun Y _ => known0 _) (by kernel_rfl) fun Y hf hg => ?_
 unfold t90
 simp only [loads, List.mem_cons, Prod.mk.injEq, List.not_mem_nil, or_false] at h
 rcases h with ⟨rfl, rfl⟩ | ⟨rfl, rfl⟩ | ⟨rfl, rfl⟩ | ⟨rfl, rfl⟩ | ⟨rfl, rfl⟩ | ⟨rfl, rfl⟩ | ⟨rfl, rfl⟩ | ⟨rfl, rfl⟩ | ⟨rfl, rfl⟩ | ⟨rfl, rfl⟩ | ⟨rfl, rfl⟩
 ·(
   refine VOK_call k88_98 rfl rfl (VOK_lt rfl rfl (VOK_ite rfl (fun h => by cases h) (fun _ => VOK_lt rfl rfl (VOK_ite rfl (fun _ => ?_) (fun h => by cases h)))))
   refine VOK_call k46_1 rfl rfl (VOK_lt rfl rfl (VOK_ite rfl (fun _ => VOK_lt rfl rfl (VOK_call (p92 true) rfl rfl (VOK_fin ?_ ⟨1, 1, rfl, by decide⟩))) (fun h => by cases h)))
   exact okXn (.mk _ _ _ _ _ _ _ _ _ args) _)
 ·(
   refine VOK_call k88_113 rfl rfl (VOK_lt rfl rfl (VOK_ite rfl (fun h => by cases h) (fun _ => VOK_lt rfl rfl (VOK_ite rfl (fun _ => ?_) (fun h => by cases h)))))
   refine VOK_call k46_1 rfl rfl (VOK_lt rfl rfl (VOK_ite rfl (fun _ => VOK_lt rfl rfl (VOK_call (p92 true) rfl rfl (VOK_fin ?_ ⟨3, 1, rfl, by decide⟩))) (fun h => by cases h)))
   exact okXn (.mk _ _ _ _ _ _ _ _ _ args) _)
 ·(
   refine VOK_call k88_116_109 rfl rfl (VOK_lt rfl rfl (VOK_ite rfl (fun h => by cases h) (fun _ => VOK_lt rfl rfl (VOK_ite rfl (fun h => by cases h) (fun _ => ?_)))))
   refine VOK_call k46_6 rfl rfl (VOK_lt rfl rfl (VOK_ite rfl (fun h => by cases h) (fun _ => VOK_lt rfl rfl (VOK_lt rfl rfl (VOK_call k95_116_109_46_113 rfl rfl (VOK_lt rfl rfl (VOK_ite rfl (fun h => by cases h) (fun _ => VOK_fin ?_ ⟨12, 1, rfl, by decide⟩))))))))
   exact okXn (.mk _ _ _ _ _ _ _ _ _ args) _)
 ·(
   refine VOK_call k88_97 rfl rfl (VOK_lt rfl rfl (VOK_ite rfl (fun h => by cases h) (fun _ => VOK_lt rfl rfl (VOK_ite rfl (fun _ => ?_) (fun h => by cases h)))))
   refine VOK_call k46_2 rfl rfl (VOK_lt rfl rfl (VOK_ite rfl (fun _ => VOK_lt rfl rfl (VOK_call (p92 true) rfl rfl (VOK_fin ?_ ⟨0, 2, rfl, by decide⟩))) (fun h => by cases h)))
   exact okXn (.mk _ _ _ _ _ _ _ _ _ args) _)
 ·(
   refine VOK_call k88_120 rfl rfl (VOK_lt rfl rfl (VOK_ite rfl (fun h => by cases h) (fun _ => VOK_lt rfl rfl (VOK_ite rfl (fun _ => ?_) (fun h => by cases h)))))
   refine VOK_call k46_2 rfl rfl (VOK_lt rfl rfl (VOK_ite rfl (fun _ => VOK_lt rfl rfl (VOK_call (p92 true) rfl rfl (VOK_fin ?_ ⟨4, 2, rfl, by decide⟩))) (fun h => by cases h)))
   exact okXn (.mk _ _ _ _ _ _ _ _ _ args) _)
 ·(
   refine VOK_call k88_111 rfl rfl (VOK_lt rfl rfl (VOK_ite rfl (fun h => by cases h) (fun _ => VOK_lt rfl rfl (VOK_ite rfl (fun _ => ?_) (fun h => by cases h)))))
   refine VOK_call k46_2 rfl rfl (VOK_lt rfl rfl (VOK_ite rfl (fun _ => VOK_lt rfl rfl (VOK_call (p92 true) rfl rfl (VOK_fin ?_ ⟨2, 2, rfl, by decide⟩))) (fun h => by cases h)))
   exact okXn (.mk _ _ _ _ _ _ _ _ _ args) _)
 ·(
   refine VOK_call k88_99 rfl rfl (VOK_lt rfl rfl (VOK_ite rfl (fun h => by cases h) (fun _ => VOK_lt rfl rfl (VOK_ite rfl (fun h => by cases h) (fun _ => ?_)))))
   refine VOK_call k46_9 rfl rfl (VOK_lt rfl rfl (VOK_ite rfl (fun h => by cases h) (fun _ => VOK_lt rfl rfl (VOK_lt rfl rfl (VOK_call k95_99_46_99_118 rfl rfl (VOK_lt rfl rfl (VOK_ite rfl (fun h => by cases h) (fun _ => VOK_fin ?_ ⟨17, 2, rfl, by decide⟩))))))))
   exact okXn (.mk _ _ _ _ _ _ _ _ _ args) _)
 ·(
   refine VOK_call k88_121 rfl rfl (VOK_lt rfl rfl (VOK_ite rfl (fun h => by cases h) (fun _ => VOK_lt rfl rfl (VOK_ite rfl (fun _ => ?_) (fun h => by cases h)))))
   refine VOK_call k46_3 rfl rfl (VOK_lt rfl rfl (VOK_ite rfl (fun _ => VOK_lt rfl rfl (VOK_call (p92 true) rfl rfl (VOK_fin ?_ ⟨5, 3, rfl, by decide⟩))) (fun h => by cases h)))
   exact okXn (.mk _ _ _ _ _ _ _ _ _ args) _)
 ·(
   refine VOK_call k88_116_109 rfl rfl (VOK_lt rfl rfl (VOK_ite rfl (fun h => by cases h) (fun _ => VOK_lt rfl rfl (VOK_ite rfl (fun h => by cases h) (fun _ => ?_)))))
   refine VOK_call k46_6 rfl rfl (VOK_lt rfl rfl (VOK_ite rfl (fun h => by cases h) (fun _ => VOK_lt rfl rfl (VOK_lt rfl rfl (VOK_call k95_116_109_46_101_116 rfl rfl (VOK_lt rfl rfl (VOK_ite rfl (fun h => by cases h) (fun _ => VOK_fin ?_ ⟨13, 4, rfl, by decide⟩))))))))
   exact okXn (.mk _ _ _ _ _ _ _ _ _ args) _)
 ·(
   refine VOK_call k88_119 rfl rfl (VOK_lt rfl rfl (VOK_ite rfl (fun h => by cases h) (fun _ => VOK_lt rfl rfl (VOK_ite rfl (fun _ => ?_) (fun h => by cases h)))))
   refine VOK_call k46_4 rfl rfl (VOK_lt rfl rfl (VOK_ite rfl (fun _ => VOK_lt rfl rfl (VOK_call (p92 true) rfl rfl (VOK_fin ?_ ⟨7, 4, rfl, by decide⟩))) (fun h => by cases h)))
   exact okXn (.mk _ _ _ _ _ _ _ _ _ args) _)
 ·(
   refine VOK_call k88_122 rfl rfl (VOK_lt rfl rfl (VOK_ite rfl (fun h => by cases h) (fun _ => VOK_lt rfl rfl (VOK_ite rfl (fun _ => ?_) (fun h => by cases h)))))
   refine VOK_call k46_5 rfl rfl (VOK_lt rfl rfl (VOK_ite rfl (fun _ => VOK_lt rfl rfl (VOK_call (p92 true) rfl rfl (VOK_fin ?_ ⟨6, 5, rfl, by decide⟩))) (fun h => by cases h)))
   exact okXn (.mk _ _ _ _ _ _ _ _ _ args) _)
end Go.Proofs.Ytjconanknjgpnaa.vars
set_option linter.unusedVariables false
set_option linter.unusedSimpArgs false
namespace Go.Sx
section
variable {P : Program} {t : TypeId} {ti : TypeInfo} {α : Type} {enc : α → List AV} {w : Nat}
theorem setAt_app : ∀ (a xs b c : List AV), b.length = xs.length → setAt a.length xs (a ++ (b ++ c)) = some (a ++ (xs ++ c))
 | [], [], [], c, _ => by cases c <;> rfl
 | [], x :: xs, y :: b, c, h => by
   have ih := setAt_app [] xs b c (by simpa using h)
   simp only [List.nil_append, List.length_nil, List.cons_append] at ih ⊢
   simp only [setAt, ih]
 | [], x :: xs, [], c, h => by simp at h
 | [], [], y :: b, c, h => by simp at h
 | x :: a, xs, b, c, h => by
   simp only [List.cons_append, List.length_cons, setAt, setAt_app a xs b c h]
theorem cut_at (hw : ∀ a, (enc a).length = w) (l : List α) {i : Nat} (hi : i < l.length) : ∃ a b, encL enc l = a ++ (enc l[i] ++ b) ∧ a.length = i * w ∧ ∀ x, encL enc (l.set i x) = a ++ (enc x ++ b) := by
 refine ⟨encL enc (l.take i), encL enc (l.drop (i + 1)), ?_, ?_, fun x => ?_⟩
 ·have h1 : l = l.take i ++ l[i] :: l.drop (i + 1) := by rw [List.getElem_cons_drop, List.take_append_drop]
  have h2 := congrArg (encL enc) h1
  rw [encL_append] at h2
  exact h2
 ·rw [encL_length hw, List.length_take]; congr 1; omega
 ·rw [List.set_eq_take_append_cons_drop, if_pos hi, encL_append]; rfl
theorem run_stx (hw : ∀ a, (enc a).length = w) {l : List α} {i : Nat} (hi : i < l.length) {off : Nat} {v : AV} {xs p q r : List AV} {y : α} (hc : v.cells = xs) (ho : v = .agg xs ∨ (∃ k n, v = .int k n)) (hinf : P.info? t = some ti) (hs : ti.size = xs.length) (h1 : allOne xs = true)
  (he : enc l[i] = p ++ (q ++ r)) (hp : p.length = off) (hq : q.length = xs.length) (hy : enc y = p ++ (xs ++ r)) (k : IntKind) : (XOp.stx t w off).run P [sliceOf enc w l, .int k (i : Int), v] = some (sliceOf enc w (l.set i y)) := by
 obtain ⟨a, b, e1, e2, e3⟩ := cut_at hw l hi
 obtain ⟨x0, l', rfl⟩ : ∃ x l', l = x :: l' := by cases l with | nil => simp at hi | cons x l' => exact ⟨x, l', rfl⟩
 have hset : ∃ z l'', (x0 :: l').set i y = z :: l'' ∧ l''.length = l'.length := by
  cases i with
  | zero => exact ⟨y, l', rfl, rfl⟩
  | succ i => exact ⟨x0, l'.set i y, rfl, by simp⟩
 obtain ⟨z, l'', e4, e5⟩ := hset
 have hst : evStore P (row0 (encL enc (x0 :: l'))) t (.ptr 0 (i * w + off)) v = some (.tup [], (row0 (encL enc (x0 :: l'))).set 0 (.cells (encL enc ((x0 :: l').set i y)))) := by
  have hg : (row0 (encL enc (x0 :: l'))).get 0 = some (.cells (encL enc (x0 :: l'))) := rfl
  have hsa : setAt (i * w + off) xs (encL enc (x0 :: l')) = some (encL enc ((x0 :: l').set i y)) := by
   have := setAt_app (a ++ p) xs q (r ++ b) hq
   rw [List.length_append, e2, hp] at this
   rw [e1, he, e3, hy]
   simpa [List.append_assoc] using this
  have hb : Nat.beq xs.length ti.size = true := by rw [hs]; exact Nat.beq_refl _
  rcases ho with rfl | ⟨k', n, rfl⟩
  ·simp only [evStore, hinf]
   have hc' : (AV.agg xs).cells = xs := hc
   simp only [hc', hb, h1, hg, hsa]
  ·simp only [evStore, hinf]
   simp only [hc, hb, h1, hg, hsa]
 show (match evStore P (row0 (encL enc (x0 :: l'))) t (.ptr 0 (Nat.add (Nat.mul i w) off)) v with
  | some r => match r.2.get 0 with
    | some (.cells cs') => some (AV.vsl (l'.length + 1) w cs')
    | _ => none
  | none => none) = _
 have e6 : Nat.add (Nat.mul i w) off = i * w + off := rfl
 rw [e6, hst]
 have hg2 : ∀ c : List AV, ((row0 (encL enc (x0 :: l'))).set 0 (.cells c)).get 0 = some (.cells c) := fun c => rfl
 simp only [hg2]
 rw [e4]
 show _ = some (AV.vsl (l''.length + 1) w (encL enc (z :: l'')))
 rw [e5]
theorem run_inb {l : List α} {i : Nat} (hi : i < l.length) (k : IntKind) : (XOp.inb).run P [sliceOf enc w l, .int k (i : Int)] = some (.int .i64 (i : Int)) := by
 cases l with
 | nil => simp at hi
 | cons x r =>
   show (match Sx.idx (i : Int) (r.length + 1) with | some n => some (AV.int .i64 (.ofNat n)) | none => none) = _
   have hb : Nat.blt i (r.length + 1) = true := by simpa [Nat.blt_eq] using hi
   have : Sx.idx (i : Int) (r.length + 1) = some i := by
    show (match Nat.blt i (r.length + 1) with | true => some i | false => none) = some i
    rw [hb]
   rw [this]; rfl
end
theorem allOne_ok : ∀ {l : List AV}, okL l = true → allOne l = true
 | [], _ => rfl
 | a :: r, h => by
   rw [okL_cons] at h
   obtain ⟨h1, h2⟩ := and_split h
   have : a.one = true := by cases a <;> first | rfl | (simp [okC] at h1)
   simp only [allOne, this, allOne_ok h2]
end Go.Sx
