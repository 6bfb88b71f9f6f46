/-
  What the functions of vars come to, each by its tree.
-/
import Derived.Test.YtbceomdmpbmnkaaDoorRows
import Derived.KernelRfl
import Derived.Test.YtbceomdmpbmnkaaDoorSyT
set_option maxRecDepth 100000
set_option linter.unusedVariables false
set_option linter.unusedSimpArgs false
namespace Go.Proofs.YtbceomdmpbmnkaaDoor.vars
open Go Go.Sx
instance gI : Gl := glT gl0 nr0 []
theorem mo : Tryd.prog.follows .mixedOrders = true := by kernel_rfl

theorem ov : OvOk Tryd.prog := ov_nil gl0 nr0 _

/-! ### values -/
structure GVal where
  kind : Int
  i : Int
  f : Nat
structure GVar where
  name : List UInt8
  role : Int
  kind : Int
  size : Int
  first : GVal
  safe : GVal
def encI (n : Int) : List AV := [.int .i64 n]
def encVal (v : GVal) : List AV := [.int .i64 v.kind, .int .i64 v.i, .flt .f64 v.f]
def encVar (v : GVar) : List AV := [.str v.name, .int .i64 v.role, .int .i64 v.kind, .int .i64 v.size, .int .i64 v.first.kind, .int .i64 v.first.i, .flt .f64 v.first.f, .int .i64 v.safe.kind, .int .i64 v.safe.i, .flt .f64 v.safe.f]
theorem lenI (n : Int) : (encI n).length = 1 := rfl
theorem lenVal (v : GVal) : (encVal v).length = 3 := rfl
theorem lenVar (v : GVar) : (encVar v).length = 10 := rfl
theorem okI1 (n : Int) : okL (encI n) = true := rfl
theorem okVal (v : GVal) : okL (encVal v) = true := rfl
theorem okVar (v : GVar) : okL (encVar v) = true := rfl
abbrev ints (l : List Int) : AV := sliceOf encI 1 l
abbrev vals (l : List GVal) : AV := sliceOf encVal 3 l
abbrev vrs (l : List GVar) : AV := sliceOf encVar 10 l
theorem okInts (l : List Int) : okC (ints l) = true := sliceOf_ok okI1 l
theorem okVals (l : List GVal) : okC (vals l) = true := sliceOf_ok okVal l
theorem okVrs (l : List GVar) : okC (vrs l) = true := sliceOf_ok okVar l
theorem okC1 {a : AV} (h : okC a = true) : okL [a] = true := by simp only [okL, h]

/-! ### value, cells, Width, width, Zero -/
def isValue (k : Int) : Bool := decide (1 ≤ k) && decide (k ≤ 5)
def c41 : VC := ⟨⟨[], []⟩, [], []⟩
def t41 : VT :=
 (.lt (.bin .geq 3 false true) [.sym 64, .int .i64 1] 65 none
 (.ite 65
  (.lt (.bin .leq 3 false true) [.sym 64, .int .i64 5] 66 none
  (.done (.sym 66)))
  (.done (.bool false))))
theorem p41 (k : Int) : Pure Tryd.prog 41 [.int .i64 k] (.bool (isValue k)) := by
  refine pure_shape (sh := [none]) (ls := [.int .i64 k]) (c := c41) (n := 300) (t := t41) mo ov rfl rfl rfl (fun Y _ => known0 _) rfl (by kernel_rfl) fun Y hf hg => ?_
  unfold t41
  repeat' (first
    | refine VOK_lt (run_geq ..) rfl ?_
    | refine VOK_lt (run_leq ..) rfl ?_
    | refine VOK_ite rfl (fun h => ?_) (fun h => ?_)
    | refine VOK_done ?_)
  · show AV.bool _ = _
    unfold isValue; rw [h]; rfl
  · show AV.bool _ = _
    unfold isValue; rw [h]; rfl
def c44 : VC := ⟨⟨[], []⟩, [(41, [none])], []⟩
def t44 : VT :=
 (.lt (.bin .eql 3 false true) [.sym 64, .int .i64 6] 65 none
 (.ite 65
  (.done (.vsl 4 1 [.int .i64 1, .int .i64 4, .int .i64 1, .int .i64 4]))
  (.lt (.bin .eql 3 false true) [.sym 64, .int .i64 7] 66 none
  (.ite 66
   (.done (.vsl 4 1 [.int .i64 1, .int .i64 4, .int .i64 1, .int .i64 4]))
   (.lt (.bin .eql 3 false true) [.sym 64, .int .i64 8] 67 none
   (.ite 67
    (.done (.vsl 4 1 [.int .i64 1, .int .i64 4, .int .i64 1, .int .i64 4]))
    (.lt (.bin .eql 3 false true) [.sym 64, .int .i64 9] 68 none
    (.ite 68
     (.done (.vsl 3 1 [.int .i64 1, .int .i64 2, .int .i64 1]))
     (.lt (.bin .eql 3 false true) [.sym 64, .int .i64 10] 69 none
     (.ite 69
      (.done (.vsl 3 1 [.int .i64 1, .int .i64 2, .int .i64 1]))
      (.lt (.bin .eql 3 false true) [.sym 64, .int .i64 11] 70 none
      (.ite 70
       (.done (.vsl 2 1 [.int .i64 1, .int .i64 1]))
       (.lt (.bin .eql 3 false true) [.sym 64, .int .i64 12] 71 none
       (.ite 71
        (.done (.vsl 2 1 [.int .i64 1, .int .i64 1]))
        (.call 41 [.sym 64] 72 [none]
        (.ite 72
         (.done (.vsl 1 1 [.sym 64]))
         (.done (.nsl))))))))))))))))))
def cellsOf (k : Int) : List Int :=
  if k = 6 then [1, 4, 1, 4] else if k = 7 then [1, 4, 1, 4] else if k = 8 then [1, 4, 1, 4] else if k = 9 then [1, 2, 1] else if k = 10 then [1, 2, 1] else if k = 11 then [1, 1] else if k = 12 then [1, 1] else if isValue k = true then [k] else []
theorem p44 (k : Int) : Pure Tryd.prog 44 [.int .i64 k] (ints (cellsOf k)) := by
  refine pure_shape (sh := [none]) (ls := [.int .i64 k]) (c := c44) (n := 300) (t := t44) mo ov rfl rfl (okC_noRef (okInts _)) (fun Y _ => known0 _) rfl (by kernel_rfl) fun Y hf hg => ?_
  unfold t44
  repeat' (first
    | refine VOK_lt (run_eql ..) rfl ?_
    | refine VOK_call (p41 _) rfl rfl ?_
    | refine VOK_ite rfl (fun h => ?_) (fun h => ?_)
    | refine VOK_done ?_)
  all_goals (simp only [decide_eq_true_eq, decide_eq_false_iff_not] at *)
  all_goals (unfold cellsOf)
  all_goals (simp only [*, if_true, if_false]; try rfl)
def c35 : VC := ⟨⟨[], []⟩, [(44, [none])], []⟩
def t35 : VT :=
 (.call 44 [.sym 64] 65 [none]
 (.lt (.len 49) [.sym 65] 66 none
 (.done (.sym 66))))
theorem len49 (l : List Int) : (XOp.len 49).run Tryd.prog [ints l] = some (.int .i64 (l.length : Int)) := run_len_sl Tryd.underlying49 l
theorem p35 (k : Int) : Pure Tryd.prog 35 [.int .i64 k] (.int .i64 ((cellsOf k).length : Int)) := by
  refine pure_shape (sh := [none]) (ls := [.int .i64 k]) (c := c35) (n := 300) (t := t35) mo ov rfl rfl rfl (fun Y _ => known0 _) rfl (by kernel_rfl) fun Y hf hg => ?_
  unfold t35
  exact VOK_call (p44 k) rfl (okC1 (okInts _)) (VOK_lt (len49 _) rfl (VOK_done rfl))
def c30 : VC := ⟨⟨[], []⟩, [(35, [none])], []⟩
def t30 : VT :=
 (.call 35 [.sym 66] 74 [none]
 (.lt (.mm true) [.sym 67, .int .i64 1] 75 none
 (.lt (.bin .mul 3 false false) [.sym 74, .sym 75] 76 none
 (.done (.sym 76)))))
theorem run_max {P : Program} (k : IntKind) (a b : Int) : (XOp.mm true).run P [.int k a, .int k b] = some (.int k (max a b)) := by
  show (match Nat.beq (kix k) (kix k) with | true => some (AV.int k (max a b)) | false => none) = _
  rw [kix_self]
def wid (v : GVar) : Int := IntKind.i64.wrap (((cellsOf v.kind).length : Int) * max v.size 1)
theorem p30 (v : GVar) : Pure Tryd.prog 30 [.agg (encVar v)] (.int .i64 (wid v)) := by
  refine pure_shape (sh := [some 10]) (ls := encVar v) (c := c30) (n := 300) (t := t30) mo ov rfl rfl rfl (fun Y _ => known0 _) rfl (by kernel_rfl) fun Y hf hg => ?_
  unfold t30
  exact VOK_call (p35 v.kind) rfl rfl (VOK_lt (run_max ..) rfl (VOK_lt (run_mul ..) rfl (VOK_done rfl)))
def zeroOf (k : Int) : GVal := if isValue k = true then ⟨k, 0, 0⟩ else ⟨0, 0, 0⟩
/-! ### values that may be -/
def c48 : VC := ⟨⟨[], []⟩, [], []⟩
def t48 : VT :=
 (.lt (.bin .eql 35 false true) [.sym 64, .flt .f64 0] 65 none
 (.ite 65
  (.lt (.bin .quo 35 true false) [.flt .f64 4607182418800017408, .sym 64] 66 none
  (.lt (.bin .gtr 35 false true) [.sym 66, .flt .f64 0] 67 none
  (.done (.sym 67))))
  (.done (.bool false))))
theorem p48 (n : Nat) (hn : n < 18446744073709551616) : Pure Tryd.prog 48 [.flt .f64 n] (.bool (decide (n = 0))) := by
  refine pure_shape (sh := [none]) (ls := [.flt .f64 n]) (c := c48) (n := 300) (t := t48) mo ov rfl rfl rfl (fun Y _ => known0 _) rfl (by kernel_rfl) fun Y hf hg => ?_
  unfold t48
  refine VOK_lt (run_feq0 ..) rfl (VOK_ite rfl (fun h => ?_) (fun h => VOK_done ?_))
  · have h : n = 0 ∨ n = 9223372036854775808 := by simp only [decide_eq_true_eq] at h; omega
    rcases h with rfl | rfl
    · exact VOK_lt (r := .flt .f64 9218868437227405312) (by kernel_rfl) rfl (VOK_lt (r := .bool true) (by kernel_rfl) rfl (VOK_done rfl))
    · exact VOK_lt (r := .flt .f64 18442240474082181120) (by kernel_rfl) rfl (VOK_lt (r := .bool false) (by kernel_rfl) rfl (VOK_done rfl))
  · have h : ¬ n = 0 := by simp only [decide_eq_false_iff_not] at h; intro e; subst e; simp at h
    show AV.bool false = _
    rw [decide_eq_false h]
def c42 : VC := ⟨⟨[], []⟩, [(48, [none])], []⟩
def t42 : VT :=
 (.lt (.bin .eql 3 false true) [.sym 64, .int .i64 0] 67 none
 (.ite 67
  (.lt (.bin .eql 2 false true) [.sym 65, .int .i64 0] 68 none
  (.ite 68
   (.call 48 [.sym 66] 69 [none]
   (.done (.sym 69)))
   (.done (.bool false))))
  (.done (.bool false))))
def nought (v : GVal) : Bool := decide (v.kind = 0) && (decide (v.i = 0) && decide (v.f = 0))
theorem p42 (v : GVal) (hv : v.f < 18446744073709551616) : Pure Tryd.prog 42 [.agg (encVal v)] (.bool (nought v)) := by
  refine pure_shape (sh := [some 3]) (ls := encVal v) (c := c42) (n := 300) (t := t42) mo ov rfl rfl rfl (fun Y _ => known0 _) rfl (by kernel_rfl) fun Y hf hg => ?_
  unfold t42
  repeat' (first
    | refine VOK_lt (run_eql ..) rfl ?_
    | refine VOK_call (p48 v.f hv) rfl rfl ?_
    | refine VOK_ite rfl (fun h => ?_) (fun h => ?_)
    | refine VOK_done ?_)
  all_goals (show AV.bool _ = _; unfold nought; simp only [*]; try rfl)
end Go.Proofs.YtbceomdmpbmnkaaDoor.vars
/-
  What the functions of vars come to, each by its tree: values that may be, names.
-/
set_option maxRecDepth 100000
set_option linter.unusedVariables false
set_option linter.unusedSimpArgs false
namespace Go.Proofs.YtbceomdmpbmnkaaDoor.vars
open Go Go.Sx
def c49 : VC := ⟨⟨[], []⟩, [(48, [none])], []⟩
def t49 : VT :=
 (.lt (.bin .eql 3 false true) [.sym 64, .int .i64 5] 67 none
 (.ite 67
  (.lt (.bin .eql 2 false true) [.sym 65, .int .i64 0] 68 none
  (.done (.sym 68)))
  (.call 48 [.sym 66] 68 [none]
  (.lt (.un .not) [.sym 68] 69 none
  (.ite 69
   (.done (.bool false))
   (.lt (.bin .eql 3 false true) [.sym 64, .int .i64 1] 70 none
   (.ite 70
    (.lt (.bin .eql 2 false true) [.sym 65, .int .i64 0] 71 none
    (.ite 71
     (.done (.bool true))
     (.lt (.bin .eql 2 false true) [.sym 65, .int .i64 1] 72 none
     (.done (.sym 72)))))
    (.lt (.bin .eql 3 false true) [.sym 64, .int .i64 2] 71 none
    (.ite 71
     (.lt (.conv 2 87) [.sym 65] 72 none
     (.lt (.conv 87 2) [.sym 72] 73 none
     (.lt (.bin .eql 2 false false) [.sym 65, .sym 73] 74 none
     (.done (.sym 74)))))
     (.lt (.bin .eql 3 false true) [.sym 64, .int .i64 3] 72 none
     (.ite 72
      (.lt (.conv 2 21) [.sym 65] 73 none
      (.lt (.conv 21 2) [.sym 73] 74 none
      (.lt (.bin .eql 2 false false) [.sym 65, .sym 74] 75 none
      (.done (.sym 75)))))
      (.lt (.bin .eql 3 false true) [.sym 64, .int .i64 4] 73 none
      (.done (.sym 73))))))))))))))
theorem cv_int {P : Program} {s d : TypeId} {k k' : IntKind} (hs : P.underlying s = some (.int k)) (hd : P.underlying d = some (.int k')) (n : Int) : (XOp.conv s d).run P [.int k n] = some (.int k' (k'.wrap n)) := by
  show guardH (.int k n) (evConv P h0 s d (.int k n)) = some (.int k' (k'.wrap n))
  unfold evConv evConvI
  simp only [hs, hd, guardH, offHeap, mkI_eq, wrapF_eq]
def mayVal (v : GVal) : Bool :=
  if v.kind = 5 then decide (v.i = 0) else if v.f = 0 then (if v.kind = 1 then (if v.i = 0 then true else decide (v.i = 1)) else if v.kind = 2 then decide (v.i = IntKind.i64.wrap (IntKind.i16.wrap v.i))
  else if v.kind = 3 then decide (v.i = IntKind.i64.wrap (IntKind.i32.wrap v.i)) else decide (v.kind = 4)) else false
theorem p49 (v : GVal) (hv : v.f < 18446744073709551616) : Pure Tryd.prog 49 [.agg (encVal v)] (.bool (mayVal v)) := by
  refine pure_shape (sh := [some 3]) (ls := encVal v) (c := c49) (n := 300) (t := t49) mo ov rfl rfl rfl (fun Y _ => known0 _) rfl (by kernel_rfl) fun Y hf hg => ?_
  unfold t49
  repeat' (first
    | refine VOK_lt (run_eql ..) rfl ?_
    | refine VOK_lt (run_not ..) rfl ?_
    | refine VOK_lt (cv_int Tryd.underlying2 Tryd.underlying87 _) rfl ?_
    | refine VOK_lt (cv_int Tryd.underlying87 Tryd.underlying2 _) rfl ?_
    | refine VOK_lt (cv_int Tryd.underlying2 Tryd.underlying21 _) rfl ?_
    | refine VOK_lt (cv_int Tryd.underlying21 Tryd.underlying2 _) rfl ?_
    | refine VOK_call (p48 v.f hv) rfl rfl ?_
    | refine VOK_ite rfl (fun h => ?_) (fun h => ?_)
    | refine VOK_done ?_)
  all_goals (simp only [decide_eq_true_eq, decide_eq_false_iff_not, Bool.not_true, Bool.false_eq_true, Bool.not_eq_true', Bool.not_eq_false'] at *)
  all_goals (show AV.bool _ = _; simp [mayVal, *])
def c43 : VC := ⟨⟨[], []⟩, [(49, [none])], []⟩
def t43 : VT :=
 (.lt (.bin .eql 3 false false) [.sym 64, .sym 67] 68 none
 (.ite 68
  (.call 49 [.agg [.sym 64, .sym 65, .sym 66]] 69 [none]
  (.done (.sym 69)))
  (.done (.bool false))))
def ofKind (v : GVal) (k : Int) : Bool := decide (v.kind = k) && mayVal v
theorem p43 (v : GVal) (k : Int) (hv : v.f < 18446744073709551616) : Pure Tryd.prog 43 [.agg (encVal v), .int .i64 k] (.bool (ofKind v k)) := by
  refine pure_shape (sh := [some 3, none]) (ls := encVal v ++ [.int .i64 k]) (c := c43) (n := 300) (t := t43) mo ov rfl rfl rfl (fun Y _ => known0 _) rfl (by kernel_rfl) fun Y hf hg => ?_
  unfold t43
  refine VOK_lt (run_eql ..) rfl (VOK_ite rfl (fun h => VOK_call (p49 v hv) rfl rfl (VOK_done ?_)) (fun h => VOK_done ?_))
  all_goals (show AV.bool _ = _; unfold ofKind; simp only [h]; rfl)
end Go.Proofs.YtbceomdmpbmnkaaDoor.vars
/-
  What the functions of vars come to, each by its tree: names.
-/
set_option maxRecDepth 100000
set_option linter.unusedVariables false
set_option linter.unusedSimpArgs false
namespace Go.Proofs.YtbceomdmpbmnkaaDoor.vars
open Go Go.Sx
def okCh (first : Bool) (c : UInt8) : Bool := (97 ≤ c.toNat ∧ c.toNat ≤ 122) ∨ (first = false ∧ 48 ≤ c.toNat ∧ c.toNat ≤ 57)
def chars : Bool → List UInt8 → Bool
  | _, [] => true
  | f, c :: r => okCh f c && chars false r
def nameOk (s : List UInt8) : Bool := (decide (1 ≤ s.length) && decide (s.length ≤ 8)) && chars true s
theorem chars_at (s : List UInt8) (n : Nat) (h : n < s.length) : (chars (decide (n = 0)) (s.drop n)) = (okCh (decide (n = 0)) s[n] && chars false (s.drop (n + 1))) := by
  rw [List.drop_eq_getElem_cons h]; rfl
theorem str9 : Tryd.prog.underlying 9 = some .string := Tryd.underlying9
def c40 : VC := ⟨⟨[], []⟩, [], [(0, [⟨[(15, .slx 0 0 0), (0, .sym 64), (14, .sym 69)], [], 0, 1, [], []⟩])]⟩
def t40 : VT :=
 (.lt (.len 9) [.sym 64] 65 none
 (.lt (.bin .lss 3 false true) [.sym 65, .int .i64 1] 66 none
 (.ite 66
  (.done (.bool false))
  (.lt (.len 9) [.sym 64] 67 none
  (.lt (.bin .gtr 3 false true) [.sym 67, .int .i64 8] 68 none
  (.ite 68
   (.done (.bool false))
   (.lt (.len 9) [.sym 64] 69 none
   (.loop 70 0 [.int .i64 0]
    (.cons 1
    (.lt (.bin .lss 3 false false) [.sym 70, .sym 69] 71 none
    (.ite 71
     (.lt (.idx 9) [.sym 64, .sym 70] 72 none
     (.lt (.bin .geq 5 false true) [.sym 72, .int .u8 97] 73 none
     (.ite 73
      (.lt (.idx 9) [.sym 64, .sym 70] 74 none
      (.lt (.bin .leq 5 false true) [.sym 74, .int .u8 122] 75 none
      (.lt (.un .not) [.sym 75] 76 none
      (.ite 76
       (.lt (.bin .eql 3 false true) [.sym 70, .int .i64 0] 77 none
       (.ite 77
        (.done (.bool false))
        (.lt (.idx 9) [.sym 64, .sym 70] 78 none
        (.lt (.bin .lss 5 false true) [.sym 78, .int .u8 48] 79 none
        (.ite 79
         (.done (.bool false))
         (.lt (.idx 9) [.sym 64, .sym 70] 80 none
         (.lt (.bin .gtr 5 false true) [.sym 80, .int .u8 57] 81 none
         (.ite 81
          (.done (.bool false))
          (.lt (.bin .add 3 false true) [.sym 70, .int .i64 1] 82 none
          (.again 0 0 [.sym 82]))))))))))
       (.lt (.bin .add 3 false true) [.sym 70, .int .i64 1] 77 none
       (.again 0 0 [.sym 77]))))))
      (.lt (.bin .eql 3 false true) [.sym 70, .int .i64 0] 74 none
      (.ite 74
       (.done (.bool false))
       (.lt (.idx 9) [.sym 64, .sym 70] 75 none
       (.lt (.bin .lss 5 false true) [.sym 75, .int .u8 48] 76 none
       (.ite 76
        (.done (.bool false))
        (.lt (.idx 9) [.sym 64, .sym 70] 77 none
        (.lt (.bin .gtr 5 false true) [.sym 77, .int .u8 57] 78 none
        (.ite 78
         (.done (.bool false))
         (.lt (.bin .add 3 false true) [.sym 70, .int .i64 1] 79 none
         (.again 0 0 [.sym 79])))))))))))))
     (.done (.bool true))))
    .nil)))))))))
theorem p40 (s : List UInt8) : Pure Tryd.prog 40 [.str s] (.bool (nameOk s)) := by
  refine pure_shape (sh := [none]) (ls := [.str s]) (c := c40) (n := 300) (t := t40) mo ov rfl rfl rfl (fun Y _ => known0 _) rfl (by kernel_rfl) fun Y hf hg => ?_
  unfold t40
  refine VOK_lt (run_len_str str9 s) rfl (VOK_lt (run_lss ..) rfl (VOK_ite rfl (fun h1 => VOK_done ?_) (fun h1 => VOK_lt (run_len_str str9 s) rfl (VOK_lt (run_gtr ..) rfl (VOK_ite rfl (fun h2 => VOK_done ?_) (fun h2 => VOK_lt (run_len_str str9 s) rfl ?_))))))
  · show AV.bool _ = _
    have : ¬ 1 ≤ s.length := by simp only [decide_eq_true_eq] at h1; omega
    simp [nameOk, this]
  · show AV.bool _ = _
    have : ¬ s.length ≤ 8 := by simp only [decide_eq_true_eq] at h2; omega
    simp [nameOk, this]
  have hlen : s.length ≤ 8 := by simp only [decide_eq_false_iff_not] at h2; omega
  have h1' : 1 ≤ s.length := by simp only [decide_eq_false_iff_not] at h1; omega
  have hname : nameOk s = chars true s := by simp [nameOk, hlen, h1']
  rw [hname]
  refine VOK_loop (ι := Nat) (fun n => [.int .i64 n]) (fun n => n ≤ s.length ∧ chars true s = chars (decide (n = 0)) (s.drop n)) (fun n => s.length - n) 0 ⟨Nat.zero_le _, rfl⟩ rfl (fun _ _ => rfl) (fun i j _ _ h => ?_) (fun n hn => ?_)
  · simp at h; have h : i = j := by omega
    rw [h]
  obtain ⟨hn, hc⟩ := hn
  refine VOK_lt (run_lss ..) rfl (VOK_ite rfl (fun hlt => ?_) (fun hlt => VOK_done ?_))
  · have hlt : n < s.length := by simp only [decide_eq_true_eq] at hlt; omega
    have hx := chars_at s n hlt
    have hw : IntKind.i64.wrap ((n : Int) + 1) = ((n + 1 : Nat) : Int) := by rw [wrap64 (by omega) (by omega)]; rfl
    have hno : okCh (decide (n = 0)) s[n] = false → AV.bool false = AV.bool (chars true s) := fun h => by rw [hc, hx, h]; rfl
    have ag : okCh (decide (n = 0)) s[n] = true → chars true s = chars (decide (n + 1 = 0)) (s.drop (n + 1)) := fun h => by rw [hc, hx, h]; simp
    repeat' (first
      | refine VOK_lt (run_idx_str str9 s .i64 n hlt) rfl ?_
      | refine VOK_lt (run_geq ..) rfl ?_
      | refine VOK_lt (run_leq ..) rfl ?_
      | refine VOK_lt (run_lss ..) rfl ?_
      | refine VOK_lt (run_gtr ..) rfl ?_
      | refine VOK_lt (run_eql ..) rfl ?_
      | refine VOK_lt (run_not ..) rfl ?_
      | refine VOK_lt (run_add ..) rfl ?_
      | refine VOK_ite rfl (fun h => ?_) (fun h => ?_)
      | refine VOK_again rfl ⟨n + 1, ⟨by omega, ?_⟩, ?_, by omega⟩
      | refine VOK_done ?_)
    all_goals (simp only [decide_eq_true_eq, decide_eq_false_iff_not, Bool.not_eq_true', Bool.not_eq_false'] at *)
    all_goals first
      | exact congrArg (fun x => [AV.int .i64 x]) hw
      | (refine hno ?_; simp [okCh]; omega)
      | (refine ag ?_; simp [okCh]; omega)
  · show AV.bool true = _
    have he : n = s.length := by simp only [decide_eq_false_iff_not] at hlt; omega
    rw [hc, he, List.drop_length]
    cases s <;> rfl
end Go.Proofs.YtbceomdmpbmnkaaDoor.vars
/-
  What the functions of vars come to, each by its tree: which variables may be.
-/
set_option maxRecDepth 100000
set_option linter.unusedVariables false
set_option linter.unusedSimpArgs false
namespace Go.Proofs.YtbceomdmpbmnkaaDoor.vars
open Go Go.Sx
def c34 : VC := ⟨⟨[], []⟩, [(40, [none]), (35, [none]), (41, [none]), (42, [none]), (43, [none])], []⟩
def t34 : VT :=
 (.call 40 [.sym 64] 74 [none]
 (.lt (.un .not) [.sym 74] 75 none
 (.ite 75
  (.done (.bool false))
  (.lt (.bin .lss 3 false true) [.sym 65, .int .i64 1] 76 none
  (.ite 76
   (.done (.bool false))
   (.lt (.bin .gtr 3 false true) [.sym 65, .int .i64 3] 77 none
   (.ite 77
    (.done (.bool false))
    (.call 35 [.sym 66] 78 [none]
    (.lt (.bin .eql 3 false true) [.sym 78, .int .i64 0] 79 none
    (.ite 79
     (.done (.bool false))
     (.lt (.bin .lss 3 false true) [.sym 67, .int .i64 0] 80 none
     (.ite 80
      (.done (.bool false))
      (.lt (.bin .gtr 3 false true) [.sym 67, .int .i64 8] 81 none
      (.ite 81
       (.done (.bool false))
       (.call 41 [.sym 66] 82 [none]
       (.lt (.un .not) [.sym 82] 83 none
       (.ite 83
        (.lt (.bin .eql 3 false true) [.sym 67, .int .i64 0] 84 none
        (.ite 84
         (.lt (.bin .eql 3 false true) [.sym 65, .int .i64 3] 85 none
         (.ite 85
          (.call 42 [.agg [.sym 68, .sym 69, .sym 70]] 86 [none]
          (.ite 86
           (.call 42 [.agg [.sym 71, .sym 72, .sym 73]] 87 [none]
           (.done (.sym 87)))
           (.done (.bool false))))
          (.done (.bool false))))
         (.done (.bool false))))
        (.lt (.bin .neq 3 false true) [.sym 65, .int .i64 2] 84 none
        (.ite 84
         (.call 42 [.agg [.sym 71, .sym 72, .sym 73]] 85 [none]
         (.lt (.un .not) [.sym 85] 86 none
         (.ite 86
          (.done (.bool false))
          (.lt (.bin .eql 3 false true) [.sym 65, .int .i64 2] 87 none
          (.ite 87
           (.call 43 [.agg [.sym 71, .sym 72, .sym 73], .sym 66] 88 [none]
           (.lt (.un .not) [.sym 88] 89 none
           (.ite 89
            (.done (.bool false))
            (.call 43 [.agg [.sym 68, .sym 69, .sym 70], .sym 66] 90 [none]
            (.done (.sym 90))))))
           (.call 43 [.agg [.sym 68, .sym 69, .sym 70], .sym 66] 88 [none]
           (.done (.sym 88))))))))
         (.lt (.bin .eql 3 false true) [.sym 65, .int .i64 2] 85 none
         (.ite 85
          (.call 43 [.agg [.sym 71, .sym 72, .sym 73], .sym 66] 86 [none]
          (.lt (.un .not) [.sym 86] 87 none
          (.ite 87
           (.done (.bool false))
           (.call 43 [.agg [.sym 68, .sym 69, .sym 70], .sym 66] 88 [none]
           (.done (.sym 88))))))
          (.call 43 [.agg [.sym 68, .sym 69, .sym 70], .sym 66] 86 [none]
          (.done (.sym 86))))))))))))))))))))))))
def mayVar (v : GVar) : Bool :=
  if nameOk v.name = false then false else if v.role < 1 then false else if 3 < v.role then false else if ((cellsOf v.kind).length : Int) = 0 then false else if v.size < 0 then false else if 8 < v.size then false
  else if isValue v.kind = false then (if v.size = 0 then (if v.role = 3 then (if nought v.first = true then nought v.safe else false) else false) else false)
  else if v.role = 2 then (if ofKind v.safe v.kind = true then ofKind v.first v.kind else false) else (if nought v.safe = true then ofKind v.first v.kind else false)
/-- reals are of 64 bits -/
def Plain (v : GVar) : Prop := v.first.f < 18446744073709551616 ∧ v.safe.f < 18446744073709551616 ∧ v.name.length < 9223372036854775808
theorem p34 (v : GVar) (hv : Plain v) : Pure Tryd.prog 34 [.agg (encVar v)] (.bool (mayVar v)) := by
  refine pure_shape (sh := [some 10]) (ls := encVar v) (c := c34) (n := 300) (t := t34) mo ov rfl rfl rfl (fun Y _ => known0 _) rfl (by kernel_rfl) fun Y hf hg => ?_
  unfold t34
  repeat' (first
    | refine VOK_call (p40 v.name) rfl rfl ?_
    | refine VOK_call (p35 v.kind) rfl rfl ?_
    | refine VOK_call (p41 v.kind) rfl rfl ?_
    | refine VOK_call (p42 v.first hv.1) rfl rfl ?_
    | refine VOK_call (p42 v.safe hv.2.1) rfl rfl ?_
    | refine VOK_call (p43 v.first v.kind hv.1) rfl rfl ?_
    | refine VOK_call (p43 v.safe v.kind hv.2.1) rfl rfl ?_
    | refine VOK_lt (run_lss ..) rfl ?_
    | refine VOK_lt (run_gtr ..) rfl ?_
    | refine VOK_lt (run_eql ..) rfl ?_
    | refine VOK_lt (run_neq ..) rfl ?_
    | refine VOK_lt (run_not ..) rfl ?_
    | refine VOK_ite rfl (fun h => ?_) (fun h => ?_)
    | refine VOK_done ?_)
  all_goals (simp only [decide_eq_true_eq, decide_eq_false_iff_not, Bool.not_eq_true', Bool.not_eq_false'] at *)
  all_goals first
    | contradiction
    | (show AV.bool _ = _; unfold mayVar; simp only [*, if_true, if_false, reduceIte, Bool.false_eq_true, Bool.true_eq_false, reduceCtorEq]; done)
    | (show AV.bool _ = _; unfold mayVar; simp only [*, if_true, if_false, reduceIte, Bool.false_eq_true, Bool.true_eq_false, reduceCtorEq]; rfl)
end Go.Proofs.YtbceomdmpbmnkaaDoor.vars
/-
  What the functions of vars come to, each by its tree: May.
-/
set_option maxRecDepth 100000
set_option linter.unusedVariables false
set_option linter.unusedSimpArgs false
namespace Go.Proofs.YtbceomdmpbmnkaaDoor.vars
open Go Go.Sx
def c29 : VC := ⟨⟨[], []⟩, [(34, [none]), (30, [none])], [(0, [⟨[(3, .slx 0 0 0), (4, .map 0), (10, .slx 1 0 0), (0, .sym 64), (8, .sym 64), (9, .sym 65)], [], 1, 3, [], [(0, 2)]⟩])]⟩
def t29 : VT :=
 (.lt (.len 22) [.sym 64] 65 none
 (.loop 66 0 [.int .i64 0, .int .i64 0, .vsl 0 2 []]
  (.cons 3
  (.lt (.bin .lss 3 false false) [.sym 67, .sym 65] 69 none
  (.ite 69
   (.lt (.iaddr 22) [.sym 64, .sym 67] 70 none
   (.lt (.load 39) [.sym 70] 71 (some 10)
   (.lt (.len 22) [.sym 64] 81 none
   (.lt (.bin .gtr 3 false true) [.sym 81, .int .i64 12] 82 none
   (.ite 82
    (.done (.int .i64 1))
    (.call 34 [.agg [.sym 71, .sym 72, .sym 73, .sym 74, .sym 75, .sym 76, .sym 77, .sym 78, .sym 79, .sym 80]] 83 [none]
    (.lt (.un .not) [.sym 83] 84 none
    (.ite 84
     (.done (.int .i64 1))
     (.call 30 [.agg [.sym 71, .sym 72, .sym 73, .sym 74, .sym 75, .sym 76, .sym 77, .sym 78, .sym 79, .sym 80]] 85 [none]
     (.lt (.bin .add 3 false false) [.sym 66, .sym 85] 86 none
     (.lt (.mput 71) [.sym 68, .sym 71, .bool true] 87 none
     (.lt (.bin .add 3 false true) [.sym 67, .int .i64 1] 88 none
     (.again 0 0 [.sym 86, .sym 88, .sym 87])))))))))))))
   (.lt (.bin .gtr 3 false true) [.sym 66, .int .i64 64] 70 none
   (.ite 70
    (.done (.int .i64 1))
    (.lt .mlen [.sym 68] 71 none
    (.lt (.len 22) [.sym 64] 72 none
    (.lt (.bin .lss 3 false false) [.sym 71, .sym 72] 73 none
    (.ite 73
     (.done (.int .i64 3))
     (.done (.int .i64 0))))))))))
  .nil)))
theorem len22 (l : List GVar) : (XOp.len 22).run Tryd.prog [vrs l] = some (.int .i64 (l.length : Int)) := run_len_sl Tryd.underlying22 l
theorem ia22 {l : List GVar} {i : Nat} (h : i < l.length) : (XOp.iaddr 22).run Tryd.prog [vrs l, .int .i64 (i : Int)] = some (.vptr (encL encVar (l.drop i))) :=
  run_iaddr_sl (ti := (Tryd.prog.info? 39).get!) Tryd.underlying22 (by kernel_rfl) (by kernel_rfl) lenVar h .i64
theorem ld39 {l : List GVar} {i : Nat} (h : i < l.length) : (XOp.load 39).run Tryd.prog [.vptr (encL encVar (l.drop i))] = some (.agg (encVar l[i])) :=
  run_load_agg (ti := (Tryd.prog.info? 39).get!) Tryd.underlying39 rfl (by kernel_rfl) (by kernel_rfl) lenVar h
def encK (k : List UInt8) : List AV := [.str k, .bool true]
theorem lenK (k : List UInt8) : (encK k).length = 2 := rfl
theorem okK (k : List UInt8) : okL (encK k) = true := rfl
def addKey (ks : List (List UInt8)) (k : List UInt8) : List (List UInt8) := if k ∈ ks then ks else ks ++ [k]
def keysOf : List GVar → List (List UInt8) → List (List UInt8)
  | [], ks => ks
  | v :: r, ks => keysOf r (addKey ks v.name)
def sumW : List GVar → Int → Int
  | [], n => n
  | v :: r, n => sumW r (IntKind.i64.wrap (n + wid v))
theorem keysOf_snoc (v : GVar) : ∀ (l : List GVar) (ks : List (List UInt8)), keysOf (l ++ [v]) ks = addKey (keysOf l ks) v.name
  | [], _ => rfl
  | a :: r, ks => keysOf_snoc v r _
theorem sumW_snoc (v : GVar) : ∀ (l : List GVar) (n : Int), sumW (l ++ [v]) n = IntKind.i64.wrap (sumW l n + wid v)
  | [], _ => rfl
  | a :: r, n => sumW_snoc v r _
def mapK (ks : List (List UInt8)) : AV := .vsl ks.length 2 (encL encK ks)
theorem mput71 (ks : List (List UInt8)) (k : List UInt8) : (XOp.mput 71).run Tryd.prog [mapK ks, .str k, .bool true] = some (mapK (addKey ks k)) := by
  have h1 : mputF .string (.str k) (.bool true) (encL encK ks) = some (encL encK (addKey ks k)) := by
    unfold addKey
    induction ks with
    | nil => rfl
    | cons q r ih =>
      show mputF .string (.str k) (.bool true) (.str q :: .bool true :: encL encK r) = _
      unfold mputF
      have e : keyEq .string (.str k) (.str q) = some (k == q) := by show some (eqB k q) = _; rw [eqB_eq]
      simp only [e]
      by_cases hq : k = q
      · subst hq
        simp [encL, encK]
      · have hq' : (k == q) = false := by simpa using hq
        simp only [hq', ih]
        by_cases hm : k ∈ r
        · simp [hm, hq, encL, encK]
        · simp [hm, hq, encL, encK]
  have h2 : (XOp.mput 71).run Tryd.prog [mapK ks, .str k, .bool true] = mputV .string (mapK ks) (.str k) (.bool true) := by
    show (match Tryd.prog.underlying 71 with | some (.map kt _) => (match Tryd.prog.underlying kt with | some d => mputV d (mapK ks) (.str k) (.bool true) | none => none) | _ => none) = _
    rw [Tryd.underlying71]
    simp only [Tryd.underlying9]
  rw [h2]
  unfold mputV mapK
  have e1 : keyOk .string (.str k) = true := rfl
  have e2 : (Nat.beq 2 2 && Nat.beq (Nat.mul ks.length 2) (lenA (encL encK ks))) = true := by
    rw [lenA_eq, encL_length lenK]; simp [Nat.beq_eq]
  have e3 : Nat.div (lenA (encL encK (addKey ks k))) 2 = (addKey ks k).length := by
    rw [lenA_eq, encL_length lenK]; show _ * 2 / 2 = _; omega
  simp only [e1, e2, h1, e3]
theorem mlenK (ks : List (List UInt8)) : XOp.mlen.run Tryd.prog [mapK ks] = some (.int .i64 (ks.length : Int)) := rfl
def mayE (l : List GVar) : Int := if l.all mayVar = false ∨ 12 < l.length then 1 else if 64 < sumW l 0 then 1 else if (keysOf l []).length < l.length then 3 else 0
theorem take_snoc {α : Type} (l : List α) {i : Nat} (h : i < l.length) : l.take (i + 1) = l.take i ++ [l[i]] := List.take_succ_eq_append_getElem h
theorem okMapK (ks : List (List UInt8)) : okC (mapK ks) = true := encL_ok okK ks
theorem wrapS {i n : Nat} (h : i < n) (hn : n ≤ 1000) : IntKind.i64.wrap ((i : Int) + 1) = ((i + 1 : Nat) : Int) := by rw [wrap64 (by omega) (by omega)]; rfl
theorem p29 (l : List GVar) (hl : l.length ≤ 1000) (hz : ∀ v ∈ l, Plain v) : Pure Tryd.prog 29 [vrs l] (.int .i64 (mayE l)) := by
  refine pure_shape (sh := [none]) (ls := [vrs l]) (c := c29) (n := 300) (t := t29) mo ov rfl (okC1 (okVrs l)) rfl (fun Y _ => known0 _) rfl (by kernel_rfl) fun Y hf hg => ?_
  unfold t29
  refine VOK_lt (len22 l) rfl ?_
  refine VOK_loop (ι := Nat) (fun i => [.int .i64 (sumW (l.take i) 0), .int .i64 i, mapK (keysOf (l.take i) [])]) (fun i => i ≤ l.length ∧ (l.take i).all mayVar = true ∧ (0 < i → l.length ≤ 12)) (fun i => l.length - i) 0 ⟨Nat.zero_le _, rfl, fun h => absurd h (Nat.lt_irrefl _)⟩ rfl
    (fun i _ => by simp only [okL, okC, okMapK]) (fun i j _ _ h => ?_) (fun i hi => ?_)
  · simp at h; have h : i = j := by omega
    rw [h]
  obtain ⟨hi, hall, h12⟩ := hi
  refine VOK_lt (run_lss ..) rfl (VOK_ite rfl (fun hlt => ?_) (fun hlt => ?_))
  · have hlt : i < l.length := by simp only [decide_eq_true_eq] at hlt; omega
    have hv : Plain l[i] := hz _ (List.getElem_mem hlt)
    refine VOK_lt (ia22 hlt) (encL_ok okVar _) (VOK_ltN (ld39 hlt) rfl rfl (VOK_lt (len22 l) rfl (VOK_lt (run_gtr ..) rfl (VOK_ite rfl (fun h => VOK_done ?_) (fun h => ?_)))))
    · show AV.int .i64 1 = _
      have : 12 < l.length := by simp only [decide_eq_true_eq] at h; omega
      simp only [mayE, this, or_true, if_true]
    · have h12' : l.length ≤ 12 := by simp only [decide_eq_false_iff_not] at h; omega
      refine VOK_call (p34 l[i] hv) rfl rfl (VOK_lt (run_not ..) rfl (VOK_ite rfl (fun h => VOK_done ?_) (fun h => ?_)))
      · show AV.int .i64 1 = _
        have hm : l.all mayVar = false := by
          rw [List.all_eq_false]
          exact ⟨l[i], List.getElem_mem hlt, by simpa using h⟩
        simp only [mayE, hm, true_or, if_true]
      · have hm : mayVar l[i] = true := by simpa using h
        refine VOK_call (p30 l[i]) rfl rfl (VOK_lt (run_add ..) rfl (VOK_lt (mput71 ..) (okMapK _) (VOK_lt (run_add ..) rfl (VOK_again rfl ⟨i + 1, ⟨hlt, ?_, fun _ => h12'⟩, ?_, by omega⟩))))
        · rw [take_snoc l hlt, List.all_append, hall]; simp [hm]
        · rw [take_snoc l hlt, sumW_snoc, keysOf_snoc, ← wrapS hlt hl]; rfl
  · have he : i = l.length := by simp only [decide_eq_false_iff_not] at hlt; omega
    have h12' : ¬ 12 < l.length := by
      rcases Nat.eq_zero_or_pos i with h | h
      · omega
      · have := h12 h; omega
    subst he
    rw [List.take_length] at hall
    refine VOK_lt (run_gtr ..) rfl (VOK_ite rfl (fun h => VOK_done ?_) (fun h => VOK_lt (mlenK _) rfl (VOK_lt (len22 l) rfl (VOK_lt (run_lss ..) rfl (VOK_ite rfl (fun h' => VOK_done ?_) (fun h' => VOK_done ?_))))))
    all_goals (simp only [decide_eq_true_eq, decide_eq_false_iff_not, List.take_length] at *)
    all_goals (show AV.int .i64 _ = _; unfold mayE)
    · simp only [hall, h12', h, Bool.true_eq_false, or_self, if_false, if_true]
    · have h' : (keysOf l []).length < l.length := by omega
      simp only [hall, h12', h, h', Bool.true_eq_false, or_self, if_false, if_true]
    · have h' : ¬ (keysOf l []).length < l.length := by omega
      simp only [hall, h12', h, h', Bool.true_eq_false, or_self, if_false, if_true]
end Go.Proofs.YtbceomdmpbmnkaaDoor.vars
