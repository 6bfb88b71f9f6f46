/-
  What the functions of vars come to, each by its tree: which variables may be.
-/
import Derived.Test.YtbceomdmpbmnkaaFA
import Derived.KernelRfl
set_option maxRecDepth 100000
set_option linter.unusedVariables false
set_option linter.unusedSimpArgs false
namespace Go.Proofs.Ytbceomdmpbmnkaa.vars
open Go Go.Sx
def c30 : VC := ⟨⟨[], []⟩, [(42, [none]), (18, [none]), (32, [none]), (43, [none]), (44, [none])], [], 0, false, []⟩
def t30 : VT :=
 (.call 42 [64] 74 [none]
 (.lt (.un .not) [74] 75 none
 (.ite 75
 (.done (.bool false))
 (.lt (.bin .lss 3 false true) [65, J 1] 76 none
 (.ite 76
 (.done (.bool false))
 (.lt (.bin .gtr 3 false true) [65, J 3] 77 none
 (.ite 77
 (.done (.bool false))
 (.call 18 [66] 78 [none]
 (.lt (.bin .eql 3 false true) [78, J 0] 79 none
 (.ite 79
 (.done (.bool false))
 (.lt (.bin .lss 3 false true) [67, J 0] 80 none
 (.ite 80
 (.done (.bool false))
 (.lt (.bin .gtr 3 false true) [67, J 8] 81 none
 (.ite 81
 (.done (.bool false))
 (.call 32 [66] 82 [none]
 (.lt (.un .not) [82] 83 none
 (.ite 83
 (.lt (.bin .eql 3 false true) [67, J 0] 84 none
 (.ite 84
 (.lt (.bin .eql 3 false true) [65, J 3] 85 none
 (.ite 85
 (.call 43 [.agg [68, 69, 70]] 86 [none]
 (.ite 86
 (.call 43 [.agg [71, 72, 73]] 87 [none]
 (.done (87)))
 (.done (.bool false))))
 (.done (.bool false))))
 (.done (.bool false))))
 (.lt (.bin .neq 3 false true) [65, J 2] 84 none
 (.ite 84
 (.call 43 [.agg [71, 72, 73]] 85 [none]
 (.lt (.un .not) [85] 86 none
 (.ite 86
 (.done (.bool false))
 (.lt (.bin .eql 3 false true) [65, J 2] 87 none
 (.ite 87
 (.call 44 [.agg [71, 72, 73], 66] 88 [none]
 (.lt (.un .not) [88] 89 none
 (.ite 89
 (.done (.bool false))
 (.call 44 [.agg [68, 69, 70], 66] 90 [none]
 (.done (90))))))
 (.call 44 [.agg [68, 69, 70], 66] 88 [none]
 (.done (88))))))))
 (.lt (.bin .eql 3 false true) [65, J 2] 85 none
 (.ite 85
 (.call 44 [.agg [71, 72, 73], 66] 86 [none]
 (.lt (.un .not) [86] 87 none
 (.ite 87
 (.done (.bool false))
 (.call 44 [.agg [68, 69, 70], 66] 88 [none]
 (.done (88))))))
 (.call 44 [.agg [68, 69, 70], 66] 86 [none]
 (.done (86))))))))))))))))))))))))
def mayVar (v : GVar) : Bool :=
 if nameOk v.name = false then false else if v.role < 1 then false else if 3 < v.role then false else if ((cellsOf v.kind).length : Int) = 0 then false else if v.size < 0 then false else if 8 < v.size then false
 else if isValue v.kind = false then (if v.size = 0 then (if v.role = 3 then (if nought v.first = true then nought v.safe else false) else false) else false)
 else if v.role = 2 then (if ofKind v.safe v.kind = true then ofKind v.first v.kind else false) else (if nought v.safe = true then ofKind v.first v.kind else false)
def Plain (v : GVar) : Prop := v.first.f < 18446744073709551616 ∧ v.safe.f < 18446744073709551616 ∧ v.name.length < 9223372036854775808
theorem p30 (v : GVar) (hv : Plain v) : Pure Try.prog 30 [.agg (encVar v)] (.bool (mayVar v)) := by
 refine pure_shape (sh := [some 10]) (ls := encVar v) (c := c30) (n := 300) (t := t30) mo ov rfl rfl rfl (fun Y _ => known0 _) rfl (by kernel_rfl) fun Y hf hg => ?_
 unfold t30
 repeat' (first
  | refine VOK_call (p42 v.name) rfl rfl ?_
  | refine VOK_call (p18 v.kind) rfl rfl ?_
  | refine VOK_call (p32 v.kind) rfl rfl ?_
  | refine VOK_call (p43 v.first hv.1) rfl rfl ?_
  | refine VOK_call (p43 v.safe hv.2.1) rfl rfl ?_
  | refine VOK_call (p44 v.first v.kind hv.1) rfl rfl ?_
  | refine VOK_call (p44 v.safe v.kind hv.2.1) rfl rfl ?_
  | refine VOK_lt (run_lss ..) rfl ?_
  | refine VOK_lt (run_gtr ..) rfl ?_
  | refine VOK_lt (run_eql ..) rfl ?_
  | refine VOK_lt (run_neq ..) rfl ?_
  | refine VOK_lt (run_not ..) rfl ?_
  | refine VOK_ite rfl (fun h => ?_) (fun h => ?_)
  | refine VOK_done ?_)
 all_goals (simp only [decide_eq_true_eq, decide_eq_false_iff_not, Bool.not_eq_true', Bool.not_eq_false'] at *)
 all_goals first
  | contradiction
  | (show AV.bool _ = _; unfold mayVar; simp only [*, if_true, if_false, reduceIte, Bool.false_eq_true, Bool.true_eq_false, reduceCtorEq]; done)
  | (show AV.bool _ = _; unfold mayVar; simp only [*, if_true, if_false, reduceIte, Bool.false_eq_true, Bool.true_eq_false, reduceCtorEq]; rfl)
end Go.Proofs.Ytbceomdmpbmnkaa.vars
set_option maxRecDepth 100000
set_option linter.unusedVariables false
set_option linter.unusedSimpArgs false
namespace Go.Proofs.Ytbceomdmpbmnkaa.vars
open Go Go.Sx
def c12 : VC := ⟨⟨[], []⟩, [(30, [none]), (27, [none])], [(0, [⟨[(3, .slx 0 0 0), (4, .map 0), (10, .slx 1 0 0), (0, 64), (8, 64), (9, 65)], [], 1, 3, [], [(0, 2)], []⟩])], 0, false, []⟩
def t12 : VT :=
 (.lt (.len 22) [64] 65 none
 (.loop 66 0 [J 0, J 0, .vsl 0 2 []]
 (.cons 3
 (.lt (.bin .lss 3 false false) [67, 65] 69 none
 (.ite 69
 (.lt (.iaddr 22) [64, 67] 70 none
 (.lt (.load 50) [70] 71 (some 10)
 (.lt (.len 22) [64] 81 none
 (.lt (.bin .gtr 3 false true) [81, J 12] 82 none
 (.ite 82
 (.done (J 1))
 (.call 30 [.agg [71, 72, 73, 74, 75, 76, 77, 78, 79, 80]] 83 [none]
 (.lt (.un .not) [83] 84 none
 (.ite 84
 (.done (J 1))
 (.call 27 [.agg [71, 72, 73, 74, 75, 76, 77, 78, 79, 80]] 85 [none]
 (.lt (.bin .add 3 false false) [66, 85] 86 none
 (.lt (.mput 57) [68, 71, .bool true] 87 none
 (.lt (.bin .add 3 false true) [67, J 1] 88 none
 (.again 0 0 [86, 88, 87])))))))))))))
 (.lt (.bin .gtr 3 false true) [66, J 64] 70 none
 (.ite 70
 (.done (J 1))
 (.lt .mlen [68] 71 none
 (.lt (.len 22) [64] 72 none
 (.lt (.bin .lss 3 false false) [71, 72] 73 none
 (.ite 73
 (.done (J 3))
 (.done (J 0))))))))))
 .nil)))
theorem len22 (l : List GVar) : (XOp.len 22).run Try.prog [vrs l] = some (.int .i64 (l.length : Int)) := run_len_sl Try.underlying22 l
theorem ia22 {l : List GVar} {i : Nat} (h : i < l.length) : (XOp.iaddr 22).run Try.prog [vrs l, .int .i64 (i : Int)] = some (.vptr (encL encVar (l.drop i))) :=
 run_iaddr_sl (ti := (Try.prog.info? 50).get!) Try.underlying22 (by kernel_rfl) (by kernel_rfl) lenVar h .i64
theorem ld50 {l : List GVar} {i : Nat} (h : i < l.length) : (XOp.load 50).run Try.prog [.vptr (encL encVar (l.drop i))] = some (.agg (encVar l[i])) :=
 run_load_agg (ti := (Try.prog.info? 50).get!) Try.underlying50 rfl (by kernel_rfl) (by kernel_rfl) lenVar h
def encK (k : List UInt8) : List AV := [.str k, .bool true]
theorem lenK (k : List UInt8) : (encK k).length = 2 := rfl
theorem okK (k : List UInt8) : okL (encK k) = true := rfl
def addKey (ks : List (List UInt8)) (k : List UInt8) : List (List UInt8) := if k ∈ ks then ks else ks ++ [k]
def keysOf : List GVar → List (List UInt8) → List (List UInt8)
 | [], ks => ks
 | v :: r, ks => keysOf r (addKey ks v.name)
def sumW : List GVar → Int → Int
 | [], n => n
 | v :: r, n => sumW r (IntKind.i64.wrap (n + wid v))
theorem keysOf_snoc (v : GVar) : ∀ (l : List GVar) (ks : List (List UInt8)), keysOf (l ++ [v]) ks = addKey (keysOf l ks) v.name
 | [], _ => rfl
 | a :: r, ks => keysOf_snoc v r _
theorem sumW_snoc (v : GVar) : ∀ (l : List GVar) (n : Int), sumW (l ++ [v]) n = IntKind.i64.wrap (sumW l n + wid v)
 | [], _ => rfl
 | a :: r, n => sumW_snoc v r _
def mapK (ks : List (List UInt8)) : AV := .vsl ks.length 2 (encL encK ks)
theorem mput57 (ks : List (List UInt8)) (k : List UInt8) : (XOp.mput 57).run Try.prog [mapK ks, .str k, .bool true] = some (mapK (addKey ks k)) := by
 have h1 : mputF .string (.str k) (.bool true) (encL encK ks) = some (encL encK (addKey ks k)) := by
  unfold addKey
  induction ks with
  | nil => rfl
  | cons q r ih =>
    show mputF .string (.str k) (.bool true) (.str q :: .bool true :: encL encK r) = _
    unfold mputF
    have e : keyEq .string (.str k) (.str q) = some (k == q) := by show some (eqB k q) = _; rw [eqB_eq]
    simp only [e]
    by_cases hq : k = q
    ·subst hq
     simp [encL, encK]
    ·have hq' : (k == q) = false := by simpa using hq
     simp only [hq', ih]
     by_cases hm : k ∈ r
     ·simp [hm, hq, encL, encK]
     ·simp [hm, hq, encL, encK]
 have h2 : (XOp.mput 57).run Try.prog [mapK ks, .str k, .bool true] = mputV .string (mapK ks) (.str k) (.bool true) := by
  show (match Try.prog.underlying 57 with | some (.map kt _) => (match Try.prog.underlying kt with | some d => mputV d (mapK ks) (.str k) (.bool true) | none => none) | _ => none) = _
  rw [Try.underlying57]
  simp only [Try.underlying9]
 rw [h2]
 unfold mputV mapK
 have e1 : keyOk .string (.str k) = true := rfl
 have e2 : (Nat.beq 2 2 && Nat.beq (Nat.mul ks.length 2) (lenA (encL encK ks))) = true := by
  rw [lenA_eq, encL_length lenK]; simp [Nat.beq_eq]
 have e3 : Nat.div (lenA (encL encK (addKey ks k))) 2 = (addKey ks k).length := by
  rw [lenA_eq, encL_length lenK]; show _ * 2 / 2 = _; omega
 simp only [e1, e2, h1, e3]
theorem mlenK (ks : List (List UInt8)) : XOp.mlen.run Try.prog [mapK ks] = some (.int .i64 (ks.length : Int)) := rfl
def mayE (l : List GVar) : Int := if l.all mayVar = false ∨ 12 < l.length then 1 else if 64 < sumW l 0 then 1 else if (keysOf l []).length < l.length then 3 else 0
theorem take_snoc {α : Type} (l : List α) {i : Nat} (h : i < l.length) : l.take (i + 1) = l.take i ++ [l[i]] := List.take_succ_eq_append_getElem h
theorem okMapK (ks : List (List UInt8)) : okC (mapK ks) = true := encL_ok okK ks
theorem wrapS {i n : Nat} (h : i < n) (hn : n ≤ 1000) : IntKind.i64.wrap ((i : Int) + 1) = ((i + 1 : Nat) : Int) := by rw [wrap64 (by omega) (by omega)]; rfl
theorem p12 (l : List GVar) (hl : l.length ≤ 1000) (hz : ∀ v ∈ l, Plain v) : Pure Try.prog 12 [vrs l] (.int .i64 (mayE l)) := by
 refine pure_shape (sh := [none]) (ls := [vrs l]) (c := c12) (n := 300) (t := t12) mo ov rfl (okC1 (okVrs l)) rfl (fun Y _ => known0 _) rfl (by kernel_rfl) fun Y hf hg => ?_
 unfold t12
 refine VOK_lt (len22 l) rfl ?_
 refine VOK_loop (ι := Nat) (fun i => [.int .i64 (sumW (l.take i) 0), .int .i64 i, mapK (keysOf (l.take i) [])]) (fun i => i ≤ l.length ∧ (l.take i).all mayVar = true ∧ (0 < i → l.length ≤ 12)) (fun i => l.length - i) 0 ⟨Nat.zero_le _, rfl, fun h => absurd h (Nat.lt_irrefl _)⟩ rfl
  (fun i _ => by simp only [okL, okC, okMapK]) (fun i j _ _ h => ?_) (fun i hi => ?_)
 ·simp at h; have h : i = j := by omega
  rw [h]
 obtain ⟨hi, hall, h12⟩ := hi
 refine VOK_lt (run_lss ..) rfl (VOK_ite rfl (fun hlt => ?_) (fun hlt => ?_))
 ·have hlt : i < l.length := by simp only [decide_eq_true_eq] at hlt; omega
  have hv : Plain l[i] := hz _ (List.getElem_mem hlt)
  refine VOK_lt (ia22 hlt) (encL_ok okVar _) (VOK_ltN (ld50 hlt) rfl rfl (VOK_lt (len22 l) rfl (VOK_lt (run_gtr ..) rfl (VOK_ite rfl (fun h => VOK_done ?_) (fun h => ?_)))))
  ·show AV.int .i64 1 = _
   have : 12 < l.length := by simp only [decide_eq_true_eq] at h; omega
   simp only [mayE, this, or_true, if_true]
  ·have h12' : l.length ≤ 12 := by simp only [decide_eq_false_iff_not] at h; omega
   refine VOK_call (p30 l[i] hv) rfl rfl (VOK_lt (run_not ..) rfl (VOK_ite rfl (fun h => VOK_done ?_) (fun h => ?_)))
   ·show AV.int .i64 1 = _
    have hm : l.all mayVar = false := by
     rw [List.all_eq_false]
     exact ⟨l[i], List.getElem_mem hlt, by simpa using h⟩
    simp only [mayE, hm, true_or, if_true]
   ·have hm : mayVar l[i] = true := by simpa using h
    refine VOK_call (p27 l[i]) rfl rfl (VOK_lt (run_add ..) rfl (VOK_lt (mput57 ..) (okMapK _) (VOK_lt (run_add ..) rfl (VOK_again rfl ⟨i + 1, ⟨hlt, ?_, fun _ => h12'⟩, ?_, by omega⟩))))
    ·rw [take_snoc l hlt, List.all_append, hall]; simp [hm]
    ·rw [take_snoc l hlt, sumW_snoc, keysOf_snoc, ← wrapS hlt hl]; rfl
 ·have he : i = l.length := by simp only [decide_eq_false_iff_not] at hlt; omega
  have h12' : ¬ 12 < l.length := by
   rcases Nat.eq_zero_or_pos i with h | h
   ·omega
   ·have := h12 h; omega
  subst he
  rw [List.take_length] at hall
  refine VOK_lt (run_gtr ..) rfl (VOK_ite rfl (fun h => VOK_done ?_) (fun h => VOK_lt (mlenK _) rfl (VOK_lt (len22 l) rfl (VOK_lt (run_lss ..) rfl (VOK_ite rfl (fun h' => VOK_done ?_) (fun h' => VOK_done ?_))))))
  all_goals (simp only [decide_eq_true_eq, decide_eq_false_iff_not, List.take_length] at *)
  all_goals (show AV.int .i64 _ = _; unfold mayE)
  ·simp only [hall, h12', h, Bool.true_eq_false, or_self, if_false, if_true]
  ·have h' : (keysOf l []).length < l.length := by omega
   simp only [hall, h12', h, h', Bool.true_eq_false, or_self, if_false, if_true]
  ·have h' : ¬ (keysOf l []).length < l.length := by omega
   simp only [hall, h12', h, h', Bool.true_eq_false, or_self, if_false, if_true]
end Go.Proofs.Ytbceomdmpbmnkaa.vars
set_option maxRecDepth 100000
set_option linter.unusedVariables false
set_option linter.unusedSimpArgs false
namespace Go.Proofs.Ytbceomdmpbmnkaa.vars
open Go Go.Sx
def c9 : VC := ⟨⟨[], []⟩, [(12, [none]), (27, [none])], [(0, [⟨[(11, .slx 0 0 0), (3, .slx 1 0 0), (2, .slx 0 1 2), (9, 64), (10, 67)], [], 1, 3, [⟨0, 1, 2, 2, none⟩], [], []⟩])], 0, false, []⟩
def t9 : VT :=
 (.call 12 [64] 65 [none]
 (.lt (.bin .neq 35 false true) [65, J 0] 66 none
 (.ite 66
 (.done (.tup [.nsl, J 0]))
 (.lt (.len 22) [64] 67 none
 (.loop 68 0 [J 0, J 0, .nsl]
 (.cons 3
 (.lt (.bin .lss 3 false false) [68, 67] 71 none
 (.ite 71
 (.lt (.iaddr 22) [64, 68] 72 none
 (.lt (.load 50) [72] 73 (some 10)
 (.lt (.app 1 8) [70, .agg [69]] 83 none
 (.call 27 [.agg [73, 74, 75, 76, 77, 78, 79, 80, 81, 82]] 84 [none]
 (.lt (.bin .add 3 false false) [69, 84] 85 none
 (.lt (.bin .add 3 false true) [68, J 1] 86 none
 (.again 0 0 [86, 85, 83])))))))
 (.done (.tup [70, 69]))))
 .nil))))))
def addrsF : List GVar → Int → List Int
 | [], _ => []
 | v :: r, n => n :: addrsF r (IntKind.i64.wrap (n + wid v))
theorem addrsF_snoc (v : GVar) : ∀ (l : List GVar) (n : Int), addrsF (l ++ [v]) n = addrsF l n ++ [sumW l n]
 | [], _ => rfl
 | a :: r, n => by simp only [List.cons_append, addrsF, sumW, addrsF_snoc v r]
theorem addrsF_len : ∀ (l : List GVar) (n : Int), (addrsF l n).length = l.length
 | [], _ => rfl
 | a :: r, n => by simp [addrsF, addrsF_len r]
theorem app1_8 (l : List Int) (n : Int) (hl : l.length ≤ 100000) : (XOp.app 1 8).run Try.prog [ints l, .agg [.int .i64 n]] = some (ints (l ++ [n])) := run_app_sl (enc := encI) lenI (by decide) (by decide) l n (by omega)
theorem app3_24 (l : List GVal) (v : GVal) (hl : l.length ≤ 100000) : (XOp.app 3 24).run Try.prog [vals l, .agg (encVal v)] = some (vals (l ++ [v])) := run_app_sl (enc := encVal) lenVal (by decide) (by decide) l v (by omega)
theorem apps3_24 (l l' : List GVal) (hl : l.length + l'.length ≤ 100000) : (XOp.app 3 24).run Try.prog [vals l, vals l'] = some (vals (l ++ l')) := run_app_sls (enc := encVal) lenVal (by decide) (by decide) l l' (by omega)
theorem p9 (l : List GVar) (hl : l.length ≤ 1000) (hz : ∀ v ∈ l, Plain v) : Pure Try.prog 9 [vrs l] (if mayE l = 0 then .tup [ints (addrsF l 0), .int .i64 (sumW l 0)] else .tup [.nsl, .int .i64 0]) := by
 refine pure_shape (sh := [none]) (ls := [vrs l]) (c := c9) (n := 300) (t := t9) mo ov rfl (okC1 (okVrs l)) (by split <;> simp [noRef, noRefL, okC_noRef (okInts _)]) (fun Y _ => known0 _) rfl (by kernel_rfl) fun Y hf hg => ?_
 unfold t9
 refine VOK_call (p12 l hl hz) rfl rfl (VOK_lt (run_neq ..) rfl (VOK_ite rfl (fun h => VOK_done ?_) (fun h => VOK_lt (len22 l) rfl ?_)))
 ·have h' : ¬ mayE l = 0 := by simpa using h
  rw [if_neg h']; rfl
 have h' : mayE l = 0 := by simpa using h
 rw [if_pos h']
 refine VOK_loop (ι := Nat) (fun i => [.int .i64 i, .int .i64 (sumW (l.take i) 0), ints (addrsF (l.take i) 0)]) (fun i => i ≤ l.length) (fun i => l.length - i) 0 (Nat.zero_le _) rfl
  (fun i _ => by simp only [okL, okC, okInts]) (fun i j _ _ h => ?_) (fun i hi => ?_)
 ·simp at h; have h : i = j := by omega
  rw [h]
 refine VOK_lt (run_lss ..) rfl (VOK_ite rfl (fun hlt => ?_) (fun hlt => VOK_done ?_))
 ·have hlt : i < l.length := by simp only [decide_eq_true_eq] at hlt; omega
  refine VOK_lt (ia22 hlt) (encL_ok okVar _) (VOK_ltN (ld50 hlt) rfl rfl (VOK_lt (app1_8 _ _ (by rw [addrsF_len, List.length_take]; omega)) (okInts _) (VOK_call (p27 l[i]) rfl rfl (VOK_lt (run_add ..) rfl (VOK_lt (run_add ..) rfl (VOK_again rfl ⟨i + 1, hlt, ?_, by omega⟩))))))
  rw [take_snoc l hlt, sumW_snoc, addrsF_snoc, ← wrapS hlt hl]; rfl
 ·have he : i = l.length := by simp only [decide_eq_false_iff_not] at hlt; omega
  subst he
  show AV.tup [ints (addrsF (l.take l.length) 0), .int .i64 (sumW (l.take l.length) 0)] = _
  rw [List.take_length]
def reps : Nat → List AV
 | 0 => []
 | k + 1 => .sym 64 :: .sym 65 :: .sym 66 :: reps k
end Go.Proofs.Ytbceomdmpbmnkaa.vars
set_option maxRecDepth 100000
set_option linter.unusedVariables false
set_option linter.unusedSimpArgs false
namespace Go.Proofs.Ytbceomdmpbmnkaa.vars
open Go Go.Sx
def sizeOf1 (v : GVar) : Nat := (max v.size 1).toNat
def firstOf (v : GVar) : List GVal := if isValue v.kind = true then List.replicate (sizeOf1 v) v.first else (cellsOf v.kind).map zeroOf
def firstF : List GVar → List GVal
 | [] => []
 | v :: r => firstOf v ++ firstF r
theorem firstF_snoc (v : GVar) : ∀ l : List GVar, firstF (l ++ [v]) = firstF l ++ firstOf v
 | [] => by simp [firstF]
 | a :: r => by simp only [List.cons_append, firstF, firstF_snoc v r, List.append_assoc]
theorem cells_le (k : Int) : (cellsOf k).length ≤ 4 := by
 unfold cellsOf
 repeat' split
 all_goals simp
theorem size_le {v : GVar} (h : mayVar v = true) : v.size ≤ 8 ∧ 0 ≤ v.size := by
 unfold mayVar at h
 repeat' (split at h <;> first | (cases h; done) | skip)
 all_goals omega
theorem firstOf_le {v : GVar} (h : mayVar v = true) : (firstOf v).length ≤ 8 := by
 obtain ⟨h1, h2⟩ := size_le h
 unfold firstOf
 split
 ·rw [List.length_replicate]; unfold sizeOf1; omega
 ·rw [List.length_map]; have := cells_le v.kind; omega
theorem firstF_le : ∀ l : List GVar, l.all mayVar = true → (firstF l).length ≤ 8 * l.length
 | [], _ => by simp [firstF]
 | v :: r, h => by
   simp only [List.all_cons, Bool.and_eq_true] at h
   have h1 := firstOf_le h.1
   have h2 := firstF_le r h.2
   simp only [firstF, List.length_append, List.length_cons]; omega
theorem may_all {l : List GVar} (h : mayE l = 0) : l.all mayVar = true ∧ l.length ≤ 12 ∧ sumW l 0 ≤ 64 ∧ (keysOf l []).length ≥ l.length := by
 unfold mayE at h
 split at h
 ·cases h
 rename_i h1
 split at h
 ·cases h
 rename_i h2
 split at h
 ·cases h
 rename_i h3
 simp only [not_or, Bool.not_eq_false] at h1
 exact ⟨h1.1, by omega, by omega, by omega⟩
theorem all_take {l : List GVar} (h : l.all mayVar = true) (i : Nat) : (l.take i).all mayVar = true := by
 rw [List.all_eq_true] at h ⊢
 exact fun v hv => h v (List.mem_of_mem_take hv)
theorem ia30 {l : List Int} {i : Nat} (h : i < l.length) : (XOp.iaddr 30).run Try.prog [ints l, .int .i64 (i : Int)] = some (.vptr (encL encI (l.drop i))) :=
 run_iaddr_sl (ti := (Try.prog.info? 3).get!) Try.underlying30 (by kernel_rfl) (by kernel_rfl) lenI h .i64
theorem ld3i {l : List Int} {i : Nat} (h : i < l.length) : (XOp.load 3).run Try.prog [.vptr (encL encI (l.drop i))] = some (.int .i64 l[i]) := by
 rw [List.drop_eq_getElem_cons h]
 exact run_load_one Try.underlying3 rfl _ _
end Go.Proofs.Ytbceomdmpbmnkaa.vars
