/-
  What the functions of vars come to, each by its tree: values that may be, names.
-/
import Derived.Test.YtbceomdmpbmnkaaV1
import Derived.KernelRfl
set_option maxRecDepth 100000
set_option linter.unusedVariables false
set_option linter.unusedSimpArgs false
namespace Go.Proofs.Ytbceomdmpbmnkaa.vars
open Go Go.Sx
def c23 : VC := ⟨⟨[], []⟩, [(37, [none])], []⟩
def t23 : VT :=
 (.lt (.bin .eql 3 false true) [.sym 64, .int .i64 5] 67 none
 (.ite 67
  (.lt (.bin .eql 2 false true) [.sym 65, .int .i64 0] 68 none
  (.done (.sym 68)))
  (.call 37 [.sym 66] 68 [none]
  (.lt (.un .not) [.sym 68] 69 none
  (.ite 69
   (.done (.bool false))
   (.lt (.bin .eql 3 false true) [.sym 64, .int .i64 1] 70 none
   (.ite 70
    (.lt (.bin .eql 2 false true) [.sym 65, .int .i64 0] 71 none
    (.ite 71
     (.done (.bool true))
     (.lt (.bin .eql 2 false true) [.sym 65, .int .i64 1] 72 none
     (.done (.sym 72)))))
    (.lt (.bin .eql 3 false true) [.sym 64, .int .i64 2] 71 none
    (.ite 71
     (.lt (.conv 2 64) [.sym 65] 72 none
     (.lt (.conv 64 2) [.sym 72] 73 none
     (.lt (.bin .eql 2 false false) [.sym 65, .sym 73] 74 none
     (.done (.sym 74)))))
     (.lt (.bin .eql 3 false true) [.sym 64, .int .i64 3] 72 none
     (.ite 72
      (.lt (.conv 2 21) [.sym 65] 73 none
      (.lt (.conv 21 2) [.sym 73] 74 none
      (.lt (.bin .eql 2 false false) [.sym 65, .sym 74] 75 none
      (.done (.sym 75)))))
      (.lt (.bin .eql 3 false true) [.sym 64, .int .i64 4] 73 none
      (.done (.sym 73))))))))))))))
theorem cv_int {P : Program} {s d : TypeId} {k k' : IntKind} (hs : P.underlying s = some (.int k)) (hd : P.underlying d = some (.int k')) (n : Int) : (XOp.conv s d).run P [.int k n] = some (.int k' (k'.wrap n)) := by
  show guardH (.int k n) (evConv P h0 s d (.int k n)) = some (.int k' (k'.wrap n))
  unfold evConv evConvI
  simp only [hs, hd, guardH, offHeap, mkI_eq, wrapF_eq]
def mayVal (v : GVal) : Bool :=
  if v.kind = 5 then decide (v.i = 0) else if v.kind = 1 then (if v.i = 0 then true else decide (v.i = 1)) else if v.kind = 2 then decide (v.i = IntKind.i64.wrap (IntKind.i16.wrap v.i))
  else if v.kind = 3 then decide (v.i = IntKind.i64.wrap (IntKind.i32.wrap v.i)) else decide (v.kind = 4)
theorem p23 (v : GVal) (hv : v.f = 0) : Pure Try.prog 23 [.agg (encVal v)] (.bool (mayVal v)) := by
  obtain ⟨k, i, f⟩ := v
  simp only at hv
  subst hv
  refine pure_shape (sh := [some 3]) (ls := encVal ⟨k, i, 0⟩) (c := c23) (n := 300) (t := t23) mo ov rfl rfl rfl (fun Y _ => known0 _) rfl (by kernel_rfl) fun Y hf hg => ?_
  unfold t23
  repeat' (first
    | refine VOK_lt (run_eql ..) rfl ?_
    | refine VOK_lt (run_not ..) rfl ?_
    | refine VOK_lt (cv_int Try.underlying2 Try.underlying64 _) rfl ?_
    | refine VOK_lt (cv_int Try.underlying64 Try.underlying2 _) rfl ?_
    | refine VOK_lt (cv_int Try.underlying2 Try.underlying21 _) rfl ?_
    | refine VOK_lt (cv_int Try.underlying21 Try.underlying2 _) rfl ?_
    | refine VOK_call p37 rfl rfl ?_
    | refine VOK_ite rfl (fun h => ?_) (fun h => ?_)
    | refine VOK_done ?_)
  all_goals (simp only [decide_eq_true_eq, decide_eq_false_iff_not, Bool.not_true, Bool.false_eq_true] at *)
  all_goals (show AV.bool _ = _; simp [mayVal, *])
def c44 : VC := ⟨⟨[], []⟩, [(23, [none])], []⟩
def t44 : VT :=
 (.lt (.bin .eql 3 false false) [.sym 64, .sym 67] 68 none
 (.ite 68
  (.call 23 [.agg [.sym 64, .sym 65, .sym 66]] 69 [none]
  (.done (.sym 69)))
  (.done (.bool false))))
def ofKind (v : GVal) (k : Int) : Bool := decide (v.kind = k) && mayVal v
theorem p44 (v : GVal) (k : Int) (hv : v.f = 0) : Pure Try.prog 44 [.agg (encVal v), .int .i64 k] (.bool (ofKind v k)) := by
  refine pure_shape (sh := [some 3, none]) (ls := encVal v ++ [.int .i64 k]) (c := c44) (n := 300) (t := t44) mo ov rfl rfl rfl (fun Y _ => known0 _) rfl (by kernel_rfl) fun Y hf hg => ?_
  unfold t44
  refine VOK_lt (run_eql ..) rfl (VOK_ite rfl (fun h => VOK_call (p23 v hv) rfl rfl (VOK_done ?_)) (fun h => VOK_done ?_))
  all_goals (show AV.bool _ = _; unfold ofKind; simp only [h]; rfl)
end Go.Proofs.Ytbceomdmpbmnkaa.vars
