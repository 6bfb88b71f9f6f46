/-
  A symbol as a number, a number as a value: short names for trees.
-/
import Derived.Test.YtbceomdmpbmnkaaSyQ
import Derived.Test.YtbceomdmpbmnkaaRows
import Derived.KernelRfl
import Derived.Test.YtbceomdmpbmnkaaSyT
namespace Go.Proofs.Ytbceomdmpbmnkaa.vars
open Go Go.Sx
instance symN (n : Nat) : OfNat AV n := ⟨.sym n⟩
abbrev J (n : Int) : AV := .int .i64 n
end Go.Proofs.Ytbceomdmpbmnkaa.vars
set_option maxRecDepth 100000
set_option linter.unusedVariables false
set_option linter.unusedSimpArgs false
namespace Go.Proofs.Ytbceomdmpbmnkaa.vars
open Go Go.Sx
instance gI : Gl := glT gl0 nr0 []
theorem mo : Try.prog.follows .mixedOrders = true := by kernel_rfl
theorem ov : OvOk Try.prog := ov_nil gl0 nr0 _
structure GVal where
 kind : Int
 i : Int
 f : Nat
structure GVar where
 name : List UInt8
 role : Int
 kind : Int
 size : Int
 first : GVal
 safe : GVal
def encI (n : Int) : List AV := [.int .i64 n]
def encVal (v : GVal) : List AV := [.int .i64 v.kind, .int .i64 v.i, .flt .f64 v.f]
def encVar (v : GVar) : List AV := [.str v.name, .int .i64 v.role, .int .i64 v.kind, .int .i64 v.size, .int .i64 v.first.kind, .int .i64 v.first.i, .flt .f64 v.first.f, .int .i64 v.safe.kind, .int .i64 v.safe.i, .flt .f64 v.safe.f]
theorem lenI (n : Int) : (encI n).length = 1 := rfl
theorem lenVal (v : GVal) : (encVal v).length = 3 := rfl
theorem lenVar (v : GVar) : (encVar v).length = 10 := rfl
theorem okI1 (n : Int) : okL (encI n) = true := rfl
theorem okVal (v : GVal) : okL (encVal v) = true := rfl
theorem okVar (v : GVar) : okL (encVar v) = true := rfl
abbrev ints (l : List Int) : AV := sliceOf encI 1 l
abbrev vals (l : List GVal) : AV := sliceOf encVal 3 l
abbrev vrs (l : List GVar) : AV := sliceOf encVar 10 l
theorem okInts (l : List Int) : okC (ints l) = true := sliceOf_ok okI1 l
theorem okVals (l : List GVal) : okC (vals l) = true := sliceOf_ok okVal l
theorem okVrs (l : List GVar) : okC (vrs l) = true := sliceOf_ok okVar l
theorem okC1 {a : AV} (h : okC a = true) : okL [a] = true := by simp only [okL, h]
def isValue (k : Int) : Bool := decide (1 ≤ k) && decide (k ≤ 5)
def c32 : VC := ⟨⟨[], []⟩, [], [], 0, false, []⟩
def t32 : VT :=
 (.lt (.bin .geq 3 false true) [64, J 1] 65 none
 (.ite 65
 (.lt (.bin .leq 3 false true) [64, J 5] 66 none
 (.done (66)))
 (.done (.bool false))))
theorem p32 (k : Int) : Pure Try.prog 32 [.int .i64 k] (.bool (isValue k)) := by
 refine pure_shape (sh := [none]) (ls := [.int .i64 k]) (c := c32) (n := 300) (t := t32) mo ov rfl rfl rfl (fun Y _ => known0 _) rfl (by kernel_rfl) fun Y hf hg => ?_
 unfold t32
 repeat' (first
  | refine VOK_lt (run_geq ..) rfl ?_
  | refine VOK_lt (run_leq ..) rfl ?_
  | refine VOK_ite rfl (fun h => ?_) (fun h => ?_)
  | refine VOK_done ?_)
 ·show AV.bool _ = _
  unfold isValue; rw [h]; rfl
 ·show AV.bool _ = _
  unfold isValue; rw [h]; rfl
def c34 : VC := ⟨⟨[], []⟩, [(32, [none])], [], 0, false, []⟩
def t34 : VT :=
 (.lt (.bin .eql 3 false true) [64, J 6] 65 none
 (.ite 65
 (.done (.vsl 4 1 [J 1, J 4, J 1, J 4]))
 (.lt (.bin .eql 3 false true) [64, J 7] 66 none
 (.ite 66
 (.done (.vsl 4 1 [J 1, J 4, J 1, J 4]))
 (.lt (.bin .eql 3 false true) [64, J 8] 67 none
 (.ite 67
 (.done (.vsl 4 1 [J 1, J 4, J 1, J 4]))
 (.lt (.bin .eql 3 false true) [64, J 9] 68 none
 (.ite 68
 (.done (.vsl 3 1 [J 1, J 2, J 1]))
 (.lt (.bin .eql 3 false true) [64, J 10] 69 none
 (.ite 69
 (.done (.vsl 3 1 [J 1, J 2, J 1]))
 (.lt (.bin .eql 3 false true) [64, J 11] 70 none
 (.ite 70
 (.done (.vsl 2 1 [J 1, J 1]))
 (.lt (.bin .eql 3 false true) [64, J 12] 71 none
 (.ite 71
 (.done (.vsl 2 1 [J 1, J 1]))
 (.call 32 [64] 72 [none]
 (.ite 72
 (.done (.vsl 1 1 [64]))
 (.done (.nsl))))))))))))))))))
def cellsOf (k : Int) : List Int :=
 if k = 6 then [1, 4, 1, 4] else if k = 7 then [1, 4, 1, 4] else if k = 8 then [1, 4, 1, 4] else if k = 9 then [1, 2, 1] else if k = 10 then [1, 2, 1] else if k = 11 then [1, 1] else if k = 12 then [1, 1] else if isValue k = true then [k] else []
theorem p34 (k : Int) : Pure Try.prog 34 [.int .i64 k] (ints (cellsOf k)) := by
 refine pure_shape (sh := [none]) (ls := [.int .i64 k]) (c := c34) (n := 300) (t := t34) mo ov rfl rfl (okC_noRef (okInts _)) (fun Y _ => known0 _) rfl (by kernel_rfl) fun Y hf hg => ?_
 unfold t34
 repeat' (first
  | refine VOK_lt (run_eql ..) rfl ?_
  | refine VOK_call (p32 _) rfl rfl ?_
  | refine VOK_ite rfl (fun h => ?_) (fun h => ?_)
  | refine VOK_done ?_)
 all_goals (simp only [decide_eq_true_eq, decide_eq_false_iff_not] at *)
 all_goals (unfold cellsOf)
 all_goals (simp only [*, if_true, if_false]; try rfl)
def c18 : VC := ⟨⟨[], []⟩, [(34, [none])], [], 0, false, []⟩
def t18 : VT :=
 (.call 34 [64] 65 [none]
 (.lt (.len 30) [65] 66 none
 (.done (66))))
theorem len30 (l : List Int) : (XOp.len 30).run Try.prog [ints l] = some (.int .i64 (l.length : Int)) := run_len_sl Try.underlying30 l
theorem p18 (k : Int) : Pure Try.prog 18 [.int .i64 k] (.int .i64 ((cellsOf k).length : Int)) := by
 refine pure_shape (sh := [none]) (ls := [.int .i64 k]) (c := c18) (n := 300) (t := t18) mo ov rfl rfl rfl (fun Y _ => known0 _) rfl (by kernel_rfl) fun Y hf hg => ?_
 unfold t18
 exact VOK_call (p34 k) rfl (okC1 (okInts _)) (VOK_lt (len30 _) rfl (VOK_done rfl))
def c27 : VC := ⟨⟨[], []⟩, [(18, [none])], [], 0, false, []⟩
def t27 : VT :=
 (.call 18 [66] 74 [none]
 (.lt (.mm true) [67, J 1] 75 none
 (.lt (.bin .mul 3 false false) [74, 75] 76 none
 (.done (76)))))
theorem run_max {P : Program} (k : IntKind) (a b : Int) : (XOp.mm true).run P [.int k a, .int k b] = some (.int k (max a b)) := by
 show (match Nat.beq (kix k) (kix k) with | true => some (AV.int k (max a b)) | false => none) = _
 rw [kix_self]
def wid (v : GVar) : Int := IntKind.i64.wrap (((cellsOf v.kind).length : Int) * max v.size 1)
theorem p27 (v : GVar) : Pure Try.prog 27 [.agg (encVar v)] (.int .i64 (wid v)) := by
 refine pure_shape (sh := [some 10]) (ls := encVar v) (c := c27) (n := 300) (t := t27) mo ov rfl rfl rfl (fun Y _ => known0 _) rfl (by kernel_rfl) fun Y hf hg => ?_
 unfold t27
 exact VOK_call (p18 v.kind) rfl rfl (VOK_lt (run_max ..) rfl (VOK_lt (run_mul ..) rfl (VOK_done rfl)))
def zeroOf (k : Int) : GVal := if isValue k = true then ⟨k, 0, 0⟩ else ⟨0, 0, 0⟩
def c37 : VC := ⟨⟨[], []⟩, [], [], 0, false, []⟩
def t37 : VT :=
 (.lt (.bin .eql 23 false true) [64, .flt .f64 0] 65 none
 (.ite 65
 (.lt (.bin .quo 23 true false) [.flt .f64 4607182418800017408, 64] 66 none
 (.lt (.bin .gtr 23 false true) [66, .flt .f64 0] 67 none
 (.done (67))))
 (.done (.bool false))))
theorem p37 (n : Nat) (hn : n < 18446744073709551616) : Pure Try.prog 37 [.flt .f64 n] (.bool (decide (n = 0))) := by
 refine pure_shape (sh := [none]) (ls := [.flt .f64 n]) (c := c37) (n := 300) (t := t37) mo ov rfl rfl rfl (fun Y _ => known0 _) rfl (by kernel_rfl) fun Y hf hg => ?_
 unfold t37
 refine VOK_lt (run_feq0 ..) rfl (VOK_ite rfl (fun h => ?_) (fun h => VOK_done ?_))
 ·have h : n = 0 ∨ n = 9223372036854775808 := by simp only [decide_eq_true_eq] at h; omega
  rcases h with rfl | rfl
  ·exact VOK_lt (r := .flt .f64 9218868437227405312) (by kernel_rfl) rfl (VOK_lt (r := .bool true) (by kernel_rfl) rfl (VOK_done rfl))
  ·exact VOK_lt (r := .flt .f64 18442240474082181120) (by kernel_rfl) rfl (VOK_lt (r := .bool false) (by kernel_rfl) rfl (VOK_done rfl))
 ·have h : ¬ n = 0 := by simp only [decide_eq_false_iff_not] at h; intro e; subst e; simp at h
  show AV.bool false = _
  rw [decide_eq_false h]
def c43 : VC := ⟨⟨[], []⟩, [(37, [none])], [], 0, false, []⟩
def t43 : VT :=
 (.lt (.bin .eql 3 false true) [64, J 0] 67 none
 (.ite 67
 (.lt (.bin .eql 2 false true) [65, J 0] 68 none
 (.ite 68
 (.call 37 [66] 69 [none]
 (.done (69)))
 (.done (.bool false))))
 (.done (.bool false))))
def nought (v : GVal) : Bool := decide (v.kind = 0) && (decide (v.i = 0) && decide (v.f = 0))
theorem p43 (v : GVal) (hv : v.f < 18446744073709551616) : Pure Try.prog 43 [.agg (encVal v)] (.bool (nought v)) := by
 refine pure_shape (sh := [some 3]) (ls := encVal v) (c := c43) (n := 300) (t := t43) mo ov rfl rfl rfl (fun Y _ => known0 _) rfl (by kernel_rfl) fun Y hf hg => ?_
 unfold t43
 repeat' (first
  | refine VOK_lt (run_eql ..) rfl ?_
  | refine VOK_call (p37 v.f hv) rfl rfl ?_
  | refine VOK_ite rfl (fun h => ?_) (fun h => ?_)
  | refine VOK_done ?_)
 all_goals (show AV.bool _ = _; unfold nought; simp only [*]; try rfl)
end Go.Proofs.Ytbceomdmpbmnkaa.vars
set_option maxRecDepth 100000
set_option linter.unusedVariables false
set_option linter.unusedSimpArgs false
namespace Go.Proofs.Ytbceomdmpbmnkaa.vars
open Go Go.Sx
def c23 : VC := ⟨⟨[], []⟩, [(37, [none])], [], 0, false, []⟩
def t23 : VT :=
 (.lt (.bin .eql 3 false true) [64, J 5] 67 none
 (.ite 67
 (.lt (.bin .eql 2 false true) [65, J 0] 68 none
 (.done (68)))
 (.call 37 [66] 68 [none]
 (.lt (.un .not) [68] 69 none
 (.ite 69
 (.done (.bool false))
 (.lt (.bin .eql 3 false true) [64, J 1] 70 none
 (.ite 70
 (.lt (.bin .eql 2 false true) [65, J 0] 71 none
 (.ite 71
 (.done (.bool true))
 (.lt (.bin .eql 2 false true) [65, J 1] 72 none
 (.done (72)))))
 (.lt (.bin .eql 3 false true) [64, J 2] 71 none
 (.ite 71
 (.lt (.conv 2 64) [65] 72 none
 (.lt (.conv 64 2) [72] 73 none
 (.lt (.bin .eql 2 false false) [65, 73] 74 none
 (.done (74)))))
 (.lt (.bin .eql 3 false true) [64, J 3] 72 none
 (.ite 72
 (.lt (.conv 2 21) [65] 73 none
 (.lt (.conv 21 2) [73] 74 none
 (.lt (.bin .eql 2 false false) [65, 74] 75 none
 (.done (75)))))
 (.lt (.bin .eql 3 false true) [64, J 4] 73 none
 (.done (73))))))))))))))
theorem cv_int {P : Program} {s d : TypeId} {k k' : IntKind} (hs : P.underlying s = some (.int k)) (hd : P.underlying d = some (.int k')) (n : Int) : (XOp.conv s d).run P [.int k n] = some (.int k' (k'.wrap n)) := by
 show guardH (.int k n) (evConv P h0 s d (.int k n)) = some (.int k' (k'.wrap n))
 unfold evConv evConvI
 simp only [hs, hd, guardH, offHeap, mkI_eq, wrapF_eq]
def mayVal (v : GVal) : Bool :=
 if v.kind = 5 then decide (v.i = 0) else if v.f = 0 then (if v.kind = 1 then (if v.i = 0 then true else decide (v.i = 1)) else if v.kind = 2 then decide (v.i = IntKind.i64.wrap (IntKind.i16.wrap v.i))
 else if v.kind = 3 then decide (v.i = IntKind.i64.wrap (IntKind.i32.wrap v.i)) else decide (v.kind = 4)) else false
theorem p23 (v : GVal) (hv : v.f < 18446744073709551616) : Pure Try.prog 23 [.agg (encVal v)] (.bool (mayVal v)) := by
 refine pure_shape (sh := [some 3]) (ls := encVal v) (c := c23) (n := 300) (t := t23) mo ov rfl rfl rfl (fun Y _ => known0 _) rfl (by kernel_rfl) fun Y hf hg => ?_
 unfold t23
 repeat' (first
  | refine VOK_lt (run_eql ..) rfl ?_
  | refine VOK_lt (run_not ..) rfl ?_
  | refine VOK_lt (cv_int Try.underlying2 Try.underlying64 _) rfl ?_
  | refine VOK_lt (cv_int Try.underlying64 Try.underlying2 _) rfl ?_
  | refine VOK_lt (cv_int Try.underlying2 Try.underlying21 _) rfl ?_
  | refine VOK_lt (cv_int Try.underlying21 Try.underlying2 _) rfl ?_
  | refine VOK_call (p37 v.f hv) rfl rfl ?_
  | refine VOK_ite rfl (fun h => ?_) (fun h => ?_)
  | refine VOK_done ?_)
 all_goals (simp only [decide_eq_true_eq, decide_eq_false_iff_not, Bool.not_true, Bool.false_eq_true, Bool.not_eq_true', Bool.not_eq_false'] at *)
 all_goals (show AV.bool _ = _; simp [mayVal, *])
def c44 : VC := ⟨⟨[], []⟩, [(23, [none])], [], 0, false, []⟩
def t44 : VT :=
 (.lt (.bin .eql 3 false false) [64, 67] 68 none
 (.ite 68
 (.call 23 [.agg [64, 65, 66]] 69 [none]
 (.done (69)))
 (.done (.bool false))))
def ofKind (v : GVal) (k : Int) : Bool := decide (v.kind = k) && mayVal v
theorem p44 (v : GVal) (k : Int) (hv : v.f < 18446744073709551616) : Pure Try.prog 44 [.agg (encVal v), .int .i64 k] (.bool (ofKind v k)) := by
 refine pure_shape (sh := [some 3, none]) (ls := encVal v ++ [.int .i64 k]) (c := c44) (n := 300) (t := t44) mo ov rfl rfl rfl (fun Y _ => known0 _) rfl (by kernel_rfl) fun Y hf hg => ?_
 unfold t44
 refine VOK_lt (run_eql ..) rfl (VOK_ite rfl (fun h => VOK_call (p23 v hv) rfl rfl (VOK_done ?_)) (fun h => VOK_done ?_))
 all_goals (show AV.bool _ = _; unfold ofKind; simp only [h]; rfl)
end Go.Proofs.Ytbceomdmpbmnkaa.vars
set_option maxRecDepth 100000
set_option linter.unusedVariables false
set_option linter.unusedSimpArgs false
namespace Go.Proofs.Ytbceomdmpbmnkaa.vars
open Go Go.Sx
def okCh (first : Bool) (c : UInt8) : Bool := (97 ≤ c.toNat ∧ c.toNat ≤ 122) ∨ (first = false ∧ 48 ≤ c.toNat ∧ c.toNat ≤ 57)
def chars : Bool → List UInt8 → Bool
 | _, [] => true
 | f, c :: r => okCh f c && chars false r
def nameOk (s : List UInt8) : Bool := (decide (1 ≤ s.length) && decide (s.length ≤ 8)) && chars true s
theorem chars_at (s : List UInt8) (n : Nat) (h : n < s.length) : (chars (decide (n = 0)) (s.drop n)) = (okCh (decide (n = 0)) s[n] && chars false (s.drop (n + 1))) := by
 rw [List.drop_eq_getElem_cons h]; rfl
theorem str9 : Try.prog.underlying 9 = some .string := Try.underlying9
def c42 : VC := ⟨⟨[], []⟩, [], [(0, [⟨[(15, .slx 0 0 0), (0, 64), (14, 69)], [], 0, 1, [], [], []⟩])], 0, false, []⟩
def t42 : VT :=
 (.lt (.len 9) [64] 65 none
 (.lt (.bin .lss 3 false true) [65, J 1] 66 none
 (.ite 66
 (.done (.bool false))
 (.lt (.len 9) [64] 67 none
 (.lt (.bin .gtr 3 false true) [67, J 8] 68 none
 (.ite 68
 (.done (.bool false))
 (.lt (.len 9) [64] 69 none
 (.loop 70 0 [J 0]
 (.cons 1
 (.lt (.bin .lss 3 false false) [70, 69] 71 none
 (.ite 71
 (.lt (.idx 9) [64, 70] 72 none
 (.lt (.bin .geq 5 false true) [72, .int .u8 97] 73 none
 (.ite 73
 (.lt (.idx 9) [64, 70] 74 none
 (.lt (.bin .leq 5 false true) [74, .int .u8 122] 75 none
 (.lt (.un .not) [75] 76 none
 (.ite 76
 (.lt (.bin .eql 3 false true) [70, J 0] 77 none
 (.ite 77
 (.done (.bool false))
 (.lt (.idx 9) [64, 70] 78 none
 (.lt (.bin .lss 5 false true) [78, .int .u8 48] 79 none
 (.ite 79
 (.done (.bool false))
 (.lt (.idx 9) [64, 70] 80 none
 (.lt (.bin .gtr 5 false true) [80, .int .u8 57] 81 none
 (.ite 81
 (.done (.bool false))
 (.lt (.bin .add 3 false true) [70, J 1] 82 none
 (.again 0 0 [82]))))))))))
 (.lt (.bin .add 3 false true) [70, J 1] 77 none
 (.again 0 0 [77]))))))
 (.lt (.bin .eql 3 false true) [70, J 0] 74 none
 (.ite 74
 (.done (.bool false))
 (.lt (.idx 9) [64, 70] 75 none
 (.lt (.bin .lss 5 false true) [75, .int .u8 48] 76 none
 (.ite 76
 (.done (.bool false))
 (.lt (.idx 9) [64, 70] 77 none
 (.lt (.bin .gtr 5 false true) [77, .int .u8 57] 78 none
 (.ite 78
 (.done (.bool false))
 (.lt (.bin .add 3 false true) [70, J 1] 79 none
 (.again 0 0 [79])))))))))))))
 (.done (.bool true))))
 .nil)))))))))
theorem p42 (s : List UInt8) : Pure Try.prog 42 [.str s] (.bool (nameOk s)) := by
 refine pure_shape (sh := [none]) (ls := [.str s]) (c := c42) (n := 300) (t := t42) mo ov rfl rfl rfl (fun Y _ => known0 _) rfl (by kernel_rfl) fun Y hf hg => ?_
 unfold t42
 refine VOK_lt (run_len_str str9 s) rfl (VOK_lt (run_lss ..) rfl (VOK_ite rfl (fun h1 => VOK_done ?_) (fun h1 => VOK_lt (run_len_str str9 s) rfl (VOK_lt (run_gtr ..) rfl (VOK_ite rfl (fun h2 => VOK_done ?_) (fun h2 => VOK_lt (run_len_str str9 s) rfl ?_))))))
 ·show AV.bool _ = _
  have : ¬ 1 ≤ s.length := by simp only [decide_eq_true_eq] at h1; omega
  simp [nameOk, this]
 ·show AV.bool _ = _
  have : ¬ s.length ≤ 8 := by simp only [decide_eq_true_eq] at h2; omega
  simp [nameOk, this]
 have hlen : s.length ≤ 8 := by simp only [decide_eq_false_iff_not] at h2; omega
 have h1' : 1 ≤ s.length := by simp only [decide_eq_false_iff_not] at h1; omega
 have hname : nameOk s = chars true s := by simp [nameOk, hlen, h1']
 rw [hname]
 refine VOK_loop (ι := Nat) (fun n => [.int .i64 n]) (fun n => n ≤ s.length ∧ chars true s = chars (decide (n = 0)) (s.drop n)) (fun n => s.length - n) 0 ⟨Nat.zero_le _, rfl⟩ rfl (fun _ _ => rfl) (fun i j _ _ h => ?_) (fun n hn => ?_)
 ·simp at h; have h : i = j := by omega
  rw [h]
 obtain ⟨hn, hc⟩ := hn
 refine VOK_lt (run_lss ..) rfl (VOK_ite rfl (fun hlt => ?_) (fun hlt => VOK_done ?_))
 ·have hlt : n < s.length := by simp only [decide_eq_true_eq] at hlt; omega
  have hx := chars_at s n hlt
  have hw : IntKind.i64.wrap ((n : Int) + 1) = ((n + 1 : Nat) : Int) := by rw [wrap64 (by omega) (by omega)]; rfl
  have hno : okCh (decide (n = 0)) s[n] = false → AV.bool false = AV.bool (chars true s) := fun h => by rw [hc, hx, h]; rfl
  have ag : okCh (decide (n = 0)) s[n] = true → chars true s = chars (decide (n + 1 = 0)) (s.drop (n + 1)) := fun h => by rw [hc, hx, h]; simp
  repeat' (first
   | refine VOK_lt (run_idx_str str9 s .i64 n hlt) rfl ?_
   | refine VOK_lt (run_geq ..) rfl ?_
   | refine VOK_lt (run_leq ..) rfl ?_
   | refine VOK_lt (run_lss ..) rfl ?_
   | refine VOK_lt (run_gtr ..) rfl ?_
   | refine VOK_lt (run_eql ..) rfl ?_
   | refine VOK_lt (run_not ..) rfl ?_
   | refine VOK_lt (run_add ..) rfl ?_
   | refine VOK_ite rfl (fun h => ?_) (fun h => ?_)
   | refine VOK_again rfl ⟨n + 1, ⟨by omega, ?_⟩, ?_, by omega⟩
   | refine VOK_done ?_)
  all_goals (simp only [decide_eq_true_eq, decide_eq_false_iff_not, Bool.not_eq_true', Bool.not_eq_false'] at *)
  all_goals first
   | exact congrArg (fun x => [AV.int .i64 x]) hw
   | (refine hno ?_; simp [okCh]; omega)
   | (refine ag ?_; simp [okCh]; omega)
 ·show AV.bool true = _
  have he : n = s.length := by simp only [decide_eq_false_iff_not] at hlt; omega
  rw [hc, he, List.drop_length]
  cases s <;> rfl
end Go.Proofs.Ytbceomdmpbmnkaa.vars
