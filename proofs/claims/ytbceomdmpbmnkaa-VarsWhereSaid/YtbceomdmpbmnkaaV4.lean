/-
  What the functions of vars come to, each by its tree: which variables may be.
-/
import Derived.Test.YtbceomdmpbmnkaaV3
import Derived.KernelRfl
set_option maxRecDepth 100000
set_option linter.unusedVariables false
set_option linter.unusedSimpArgs false
namespace Go.Proofs.Ytbceomdmpbmnkaa.vars
open Go Go.Sx
def c30 : VC := ⟨⟨[], []⟩, [(42, [none]), (18, [none]), (32, [none]), (43, [none]), (44, [none])], []⟩
def t30 : VT :=
 (.call 42 [.sym 64] 74 [none]
 (.lt (.un .not) [.sym 74] 75 none
 (.ite 75
  (.done (.bool false))
  (.lt (.bin .lss 3 false true) [.sym 65, .int .i64 1] 76 none
  (.ite 76
   (.done (.bool false))
   (.lt (.bin .gtr 3 false true) [.sym 65, .int .i64 3] 77 none
   (.ite 77
    (.done (.bool false))
    (.call 18 [.sym 66] 78 [none]
    (.lt (.bin .eql 3 false true) [.sym 78, .int .i64 0] 79 none
    (.ite 79
     (.done (.bool false))
     (.lt (.bin .lss 3 false true) [.sym 67, .int .i64 0] 80 none
     (.ite 80
      (.done (.bool false))
      (.lt (.bin .gtr 3 false true) [.sym 67, .int .i64 8] 81 none
      (.ite 81
       (.done (.bool false))
       (.call 32 [.sym 66] 82 [none]
       (.lt (.un .not) [.sym 82] 83 none
       (.ite 83
        (.lt (.bin .eql 3 false true) [.sym 67, .int .i64 0] 84 none
        (.ite 84
         (.lt (.bin .eql 3 false true) [.sym 65, .int .i64 3] 85 none
         (.ite 85
          (.call 43 [.agg [.sym 68, .sym 69, .sym 70]] 86 [none]
          (.ite 86
           (.call 43 [.agg [.sym 71, .sym 72, .sym 73]] 87 [none]
           (.done (.sym 87)))
           (.done (.bool false))))
          (.done (.bool false))))
         (.done (.bool false))))
        (.lt (.bin .neq 3 false true) [.sym 65, .int .i64 2] 84 none
        (.ite 84
         (.call 43 [.agg [.sym 71, .sym 72, .sym 73]] 85 [none]
         (.lt (.un .not) [.sym 85] 86 none
         (.ite 86
          (.done (.bool false))
          (.lt (.bin .eql 3 false true) [.sym 65, .int .i64 2] 87 none
          (.ite 87
           (.call 44 [.agg [.sym 71, .sym 72, .sym 73], .sym 66] 88 [none]
           (.lt (.un .not) [.sym 88] 89 none
           (.ite 89
            (.done (.bool false))
            (.call 44 [.agg [.sym 68, .sym 69, .sym 70], .sym 66] 90 [none]
            (.done (.sym 90))))))
           (.call 44 [.agg [.sym 68, .sym 69, .sym 70], .sym 66] 88 [none]
           (.done (.sym 88))))))))
         (.lt (.bin .eql 3 false true) [.sym 65, .int .i64 2] 85 none
         (.ite 85
          (.call 44 [.agg [.sym 71, .sym 72, .sym 73], .sym 66] 86 [none]
          (.lt (.un .not) [.sym 86] 87 none
          (.ite 87
           (.done (.bool false))
           (.call 44 [.agg [.sym 68, .sym 69, .sym 70], .sym 66] 88 [none]
           (.done (.sym 88))))))
          (.call 44 [.agg [.sym 68, .sym 69, .sym 70], .sym 66] 86 [none]
          (.done (.sym 86))))))))))))))))))))))))
def mayVar (v : GVar) : Bool :=
  if nameOk v.name = false then false else if v.role < 1 then false else if 3 < v.role then false else if ((cellsOf v.kind).length : Int) = 0 then false else if v.size < 0 then false else if 8 < v.size then false
  else if isValue v.kind = false then (if v.size = 0 then (if v.role = 3 then (if nought v.first = true then nought v.safe else false) else false) else false)
  else if v.role = 2 then (if ofKind v.safe v.kind = true then ofKind v.first v.kind else false) else (if nought v.safe = true then ofKind v.first v.kind else false)
/-- reals are the nought -/
def Plain (v : GVar) : Prop := v.first.f = 0 ∧ v.safe.f = 0
theorem p30 (v : GVar) (hv : Plain v) : Pure Try.prog 30 [.agg (encVar v)] (.bool (mayVar v)) := by
  refine pure_shape (sh := [some 10]) (ls := encVar v) (c := c30) (n := 300) (t := t30) mo ov rfl rfl rfl (fun Y _ => known0 _) rfl (by kernel_rfl) fun Y hf hg => ?_
  unfold t30
  repeat' (first
    | refine VOK_call (p42 v.name) rfl rfl ?_
    | refine VOK_call (p18 v.kind) rfl rfl ?_
    | refine VOK_call (p32 v.kind) rfl rfl ?_
    | refine VOK_call (p43 v.first hv.1) rfl rfl ?_
    | refine VOK_call (p43 v.safe hv.2) rfl rfl ?_
    | refine VOK_call (p44 v.first v.kind hv.1) rfl rfl ?_
    | refine VOK_call (p44 v.safe v.kind hv.2) rfl rfl ?_
    | refine VOK_lt (run_lss ..) rfl ?_
    | refine VOK_lt (run_gtr ..) rfl ?_
    | refine VOK_lt (run_eql ..) rfl ?_
    | refine VOK_lt (run_neq ..) rfl ?_
    | refine VOK_lt (run_not ..) rfl ?_
    | refine VOK_ite rfl (fun h => ?_) (fun h => ?_)
    | refine VOK_done ?_)
  all_goals (simp only [decide_eq_true_eq, decide_eq_false_iff_not, Bool.not_eq_true', Bool.not_eq_false'] at *)
  all_goals first
    | contradiction
    | (show AV.bool _ = _; unfold mayVar; simp only [*, if_true, if_false, reduceIte, Bool.false_eq_true, Bool.true_eq_false, reduceCtorEq]; done)
    | (show AV.bool _ = _; unfold mayVar; simp only [*, if_true, if_false, reduceIte, Bool.false_eq_true, Bool.true_eq_false, reduceCtorEq]; rfl)
end Go.Proofs.Ytbceomdmpbmnkaa.vars
