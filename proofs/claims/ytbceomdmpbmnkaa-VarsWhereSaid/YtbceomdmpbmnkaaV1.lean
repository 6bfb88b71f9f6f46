/-
  What the functions of vars come to, each by its tree.
-/
import Derived.Test.YtbceomdmpbmnkaaRows
import Derived.KernelRfl
import Derived.Test.YtbceomdmpbmnkaaSyR
set_option maxRecDepth 100000
set_option linter.unusedVariables false
set_option linter.unusedSimpArgs false
namespace Go.Proofs.Ytbceomdmpbmnkaa.vars
open Go Go.Sx
instance gI : Gl := glT gl0 nr0 []
theorem mo : Try.prog.follows .mixedOrders = true := by kernel_rfl

theorem ov : OvOk Try.prog := ov_nil gl0 nr0 _

/-! ### values -/
structure GVal where
  kind : Int
  i : Int
  f : Nat
structure GVar where
  name : List UInt8
  role : Int
  kind : Int
  size : Int
  first : GVal
  safe : GVal
def encI (n : Int) : List AV := [.int .i64 n]
def encVal (v : GVal) : List AV := [.int .i64 v.kind, .int .i64 v.i, .flt .f64 v.f]
def encVar (v : GVar) : List AV := [.str v.name, .int .i64 v.role, .int .i64 v.kind, .int .i64 v.size, .int .i64 v.first.kind, .int .i64 v.first.i, .flt .f64 v.first.f, .int .i64 v.safe.kind, .int .i64 v.safe.i, .flt .f64 v.safe.f]
theorem lenI (n : Int) : (encI n).length = 1 := rfl
theorem lenVal (v : GVal) : (encVal v).length = 3 := rfl
theorem lenVar (v : GVar) : (encVar v).length = 10 := rfl
theorem okI1 (n : Int) : okL (encI n) = true := rfl
theorem okVal (v : GVal) : okL (encVal v) = true := rfl
theorem okVar (v : GVar) : okL (encVar v) = true := rfl
abbrev ints (l : List Int) : AV := sliceOf encI 1 l
abbrev vals (l : List GVal) : AV := sliceOf encVal 3 l
abbrev vrs (l : List GVar) : AV := sliceOf encVar 10 l
theorem okInts (l : List Int) : okC (ints l) = true := sliceOf_ok okI1 l
theorem okVals (l : List GVal) : okC (vals l) = true := sliceOf_ok okVal l
theorem okVrs (l : List GVar) : okC (vrs l) = true := sliceOf_ok okVar l
theorem okC1 {a : AV} (h : okC a = true) : okL [a] = true := by simp only [okL, h]

/-! ### value, cells, Width, width, Zero -/
def isValue (k : Int) : Bool := decide (1 ≤ k) && decide (k ≤ 5)
def c32 : VC := ⟨⟨[], []⟩, [], []⟩
def t32 : VT :=
 (.lt (.bin .geq 3 false true) [.sym 64, .int .i64 1] 65 none
 (.ite 65
  (.lt (.bin .leq 3 false true) [.sym 64, .int .i64 5] 66 none
  (.done (.sym 66)))
  (.done (.bool false))))
theorem p32 (k : Int) : Pure Try.prog 32 [.int .i64 k] (.bool (isValue k)) := by
  refine pure_shape (sh := [none]) (ls := [.int .i64 k]) (c := c32) (n := 300) (t := t32) mo ov rfl rfl rfl (fun Y _ => known0 _) rfl (by kernel_rfl) fun Y hf hg => ?_
  unfold t32
  repeat' (first
    | refine VOK_lt (run_geq ..) rfl ?_
    | refine VOK_lt (run_leq ..) rfl ?_
    | refine VOK_ite rfl (fun h => ?_) (fun h => ?_)
    | refine VOK_done ?_)
  · show AV.bool _ = _
    unfold isValue; rw [h]; rfl
  · show AV.bool _ = _
    unfold isValue; rw [h]; rfl
def c34 : VC := ⟨⟨[], []⟩, [(32, [none])], []⟩
def t34 : VT :=
 (.lt (.bin .eql 3 false true) [.sym 64, .int .i64 6] 65 none
 (.ite 65
  (.done (.vsl 4 1 [.int .i64 1, .int .i64 4, .int .i64 1, .int .i64 4]))
  (.lt (.bin .eql 3 false true) [.sym 64, .int .i64 7] 66 none
  (.ite 66
   (.done (.vsl 4 1 [.int .i64 1, .int .i64 4, .int .i64 1, .int .i64 4]))
   (.lt (.bin .eql 3 false true) [.sym 64, .int .i64 8] 67 none
   (.ite 67
    (.done (.vsl 4 1 [.int .i64 1, .int .i64 4, .int .i64 1, .int .i64 4]))
    (.lt (.bin .eql 3 false true) [.sym 64, .int .i64 9] 68 none
    (.ite 68
     (.done (.vsl 3 1 [.int .i64 1, .int .i64 2, .int .i64 1]))
     (.lt (.bin .eql 3 false true) [.sym 64, .int .i64 10] 69 none
     (.ite 69
      (.done (.vsl 3 1 [.int .i64 1, .int .i64 2, .int .i64 1]))
      (.lt (.bin .eql 3 false true) [.sym 64, .int .i64 11] 70 none
      (.ite 70
       (.done (.vsl 2 1 [.int .i64 1, .int .i64 1]))
       (.lt (.bin .eql 3 false true) [.sym 64, .int .i64 12] 71 none
       (.ite 71
        (.done (.vsl 2 1 [.int .i64 1, .int .i64 1]))
        (.call 32 [.sym 64] 72 [none]
        (.ite 72
         (.done (.vsl 1 1 [.sym 64]))
         (.done (.nsl))))))))))))))))))
def cellsOf (k : Int) : List Int :=
  if k = 6 then [1, 4, 1, 4] else if k = 7 then [1, 4, 1, 4] else if k = 8 then [1, 4, 1, 4] else if k = 9 then [1, 2, 1] else if k = 10 then [1, 2, 1] else if k = 11 then [1, 1] else if k = 12 then [1, 1] else if isValue k = true then [k] else []
theorem p34 (k : Int) : Pure Try.prog 34 [.int .i64 k] (ints (cellsOf k)) := by
  refine pure_shape (sh := [none]) (ls := [.int .i64 k]) (c := c34) (n := 300) (t := t34) mo ov rfl rfl (okC_noRef (okInts _)) (fun Y _ => known0 _) rfl (by kernel_rfl) fun Y hf hg => ?_
  unfold t34
  repeat' (first
    | refine VOK_lt (run_eql ..) rfl ?_
    | refine VOK_call (p32 _) rfl rfl ?_
    | refine VOK_ite rfl (fun h => ?_) (fun h => ?_)
    | refine VOK_done ?_)
  all_goals (simp only [decide_eq_true_eq, decide_eq_false_iff_not] at *)
  all_goals (unfold cellsOf)
  all_goals (simp only [*, if_true, if_false]; try rfl)
def c18 : VC := ⟨⟨[], []⟩, [(34, [none])], []⟩
def t18 : VT :=
 (.call 34 [.sym 64] 65 [none]
 (.lt (.len 30) [.sym 65] 66 none
 (.done (.sym 66))))
theorem len30 (l : List Int) : (XOp.len 30).run Try.prog [ints l] = some (.int .i64 (l.length : Int)) := run_len_sl Try.underlying30 l
theorem p18 (k : Int) : Pure Try.prog 18 [.int .i64 k] (.int .i64 ((cellsOf k).length : Int)) := by
  refine pure_shape (sh := [none]) (ls := [.int .i64 k]) (c := c18) (n := 300) (t := t18) mo ov rfl rfl rfl (fun Y _ => known0 _) rfl (by kernel_rfl) fun Y hf hg => ?_
  unfold t18
  exact VOK_call (p34 k) rfl (okC1 (okInts _)) (VOK_lt (len30 _) rfl (VOK_done rfl))
def c27 : VC := ⟨⟨[], []⟩, [(18, [none])], []⟩
def t27 : VT :=
 (.call 18 [.sym 66] 74 [none]
 (.lt (.mm true) [.sym 67, .int .i64 1] 75 none
 (.lt (.bin .mul 3 false false) [.sym 74, .sym 75] 76 none
 (.done (.sym 76)))))
theorem run_max {P : Program} (k : IntKind) (a b : Int) : (XOp.mm true).run P [.int k a, .int k b] = some (.int k (max a b)) := by
  show (match Nat.beq (kix k) (kix k) with | true => some (AV.int k (max a b)) | false => none) = _
  rw [kix_self]
def wid (v : GVar) : Int := IntKind.i64.wrap (((cellsOf v.kind).length : Int) * max v.size 1)
theorem p27 (v : GVar) : Pure Try.prog 27 [.agg (encVar v)] (.int .i64 (wid v)) := by
  refine pure_shape (sh := [some 10]) (ls := encVar v) (c := c27) (n := 300) (t := t27) mo ov rfl rfl rfl (fun Y _ => known0 _) rfl (by kernel_rfl) fun Y hf hg => ?_
  unfold t27
  exact VOK_call (p18 v.kind) rfl rfl (VOK_lt (run_max ..) rfl (VOK_lt (run_mul ..) rfl (VOK_done rfl)))
def c21 : VC := ⟨⟨[], []⟩, [(32, [none])], []⟩
def t21 : VT :=
 (.call 32 [.sym 64] 65 [none]
 (.lt (.un .not) [.sym 65] 66 none
 (.ite 66
  (.done (.agg [.int .i64 0, .int .i64 0, .flt .f64 0]))
  (.done (.agg [.sym 64, .int .i64 0, .flt .f64 0])))))
def zeroOf (k : Int) : GVal := if isValue k = true then ⟨k, 0, 0⟩ else ⟨0, 0, 0⟩
theorem p21 (k : Int) : Pure Try.prog 21 [.int .i64 k] (.agg (encVal (zeroOf k))) := by
  refine pure_shape (sh := [none]) (ls := [.int .i64 k]) (c := c21) (n := 300) (t := t21) mo ov rfl rfl rfl (fun Y _ => known0 _) rfl (by kernel_rfl) fun Y hf hg => ?_
  unfold t21
  refine VOK_call (p32 k) rfl rfl (VOK_lt (run_not ..) rfl (VOK_ite rfl (fun h => VOK_done ?_) (fun h => VOK_done ?_)))
  · have h' : isValue k = false := by simpa using h
    show AV.agg _ = _
    unfold zeroOf; rw [h']; rfl
  · have h' : isValue k = true := by simpa using h
    show AV.agg _ = _
    unfold zeroOf; rw [h']; rfl
/-! ### values that may be (whose real is the nought) -/
theorem p37 : Pure Try.prog 37 [.flt .f64 0] (.bool true) := memo_ok (n := 300) mo ov (by kernel_rfl)
def c43 : VC := ⟨⟨[], []⟩, [(37, [none])], []⟩
def t43 : VT :=
 (.lt (.bin .eql 3 false true) [.sym 64, .int .i64 0] 67 none
 (.ite 67
  (.lt (.bin .eql 2 false true) [.sym 65, .int .i64 0] 68 none
  (.ite 68
   (.call 37 [.sym 66] 69 [none]
   (.done (.sym 69)))
   (.done (.bool false))))
  (.done (.bool false))))
def nought (v : GVal) : Bool := decide (v.kind = 0) && decide (v.i = 0)
theorem p43 (v : GVal) (hv : v.f = 0) : Pure Try.prog 43 [.agg (encVal v)] (.bool (nought v)) := by
  obtain ⟨k, i, f⟩ := v
  simp only at hv
  subst hv
  refine pure_shape (sh := [some 3]) (ls := encVal ⟨k, i, 0⟩) (c := c43) (n := 300) (t := t43) mo ov rfl rfl rfl (fun Y _ => known0 _) rfl (by kernel_rfl) fun Y hf hg => ?_
  unfold t43
  repeat' (first
    | refine VOK_lt (run_eql ..) rfl ?_
    | refine VOK_call p37 rfl rfl ?_
    | refine VOK_ite rfl (fun h => ?_) (fun h => ?_)
    | refine VOK_done ?_)
  all_goals (show AV.bool _ = _; unfold nought; simp only [*]; try rfl)
end Go.Proofs.Ytbceomdmpbmnkaa.vars
