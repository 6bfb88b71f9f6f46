/-
  Which variables may be, by the document: values, names, variables.
-/
import Derived.Test.YtbceomdmpbmnkaaV8
import Derived.Test.YtbceomdmpbmnkaaFA
import Derived.KernelRfl
import Derived.Test.YtbceomdmpbmnkaaSyU
import Derived.Test.YtbceomdmpbmnkaaSyR
set_option maxRecDepth 100000
set_option linter.unusedVariables false
set_option linter.unusedSimpArgs false
namespace Go.Proofs.Ytbceomdmpbmnkaa.vars
open Go Go.Sx
def wrapK (k x : Int) : Int := if k = 1 then truthF (!decide (x = 0)) else if k = 2 then wrapR 65536 x else if k = 3 then wrapR 4294967296 x else x
theorem p39 (k x : Int) (h1 : 1 ≤ k) (h2 : k ≤ 4) : Pure Try.prog 39 [.int .i64 k, .int .i64 x] (.int .i64 (wrapK k x)) := by
 rcases (by omega : k = 1 ∨ k = 2 ∨ k = 3 ∨ k = 4) with rfl | rfl | rfl | rfl
 ·exact p47k1 x
 ·exact p47k2 x
 ·exact p47k3 x
 ·exact p47k4 x
theorem wrapR_eq (n h x : Int) (hn : n = 2 * h) (hh : 0 < h) : wrapR n x = x ↔ - h ≤ x ∧ x < h := by
 have h1 := tmod_lt x n (by omega)
 have h2 := Int.tmod_add_mul_tdiv x n
 have h3 : 0 ≤ x → 0 ≤ x.tmod n := fun h => Int.tmod_nonneg n h
 have h4 : x ≤ 0 → x.tmod n ≤ 0 := fun h => by
  have := Int.tmod_nonneg n (a := -x) (by omega)
  rw [Int.neg_tmod] at this
  omega
 have hd : n / 2 = h := by omega
 have h5 : 0 ≤ x → x < n → x.tmod n = x := fun a b => Int.tmod_eq_of_lt a b
 have h6 : x ≤ 0 → - n < x → x.tmod n = x := fun a b => by
  have := Int.tmod_eq_of_lt (a := -x) (b := n) (by omega) (by omega)
  rw [Int.neg_tmod] at this
  omega
 unfold wrapR
 rw [hd]
 constructor
 ·intro e
  repeat' (split at e)
  all_goals omega
 ·intro ⟨a, b⟩
  have e : x.tmod n = x := by
   rcases Int.le_total 0 x with h0 | h0
   ·exact h5 h0 (by omega)
   ·exact h6 h0 (by omega)
  rw [e]
  repeat' split
  all_goals omega
theorem w16 (x : Int) : (x = IntKind.i64.wrap (IntKind.i16.wrap x)) ↔ -32768 ≤ x ∧ x < 32768 := by
 simp [IntKind.wrap, IntKind.bits, IntKind.signed]; omega
theorem w32 (x : Int) : (x = IntKind.i64.wrap (IntKind.i32.wrap x)) ↔ -2147483648 ≤ x ∧ x < 2147483648 := by
 simp [IntKind.wrap, IntKind.bits, IntKind.signed]; omega
def c24 : VC := ⟨⟨[], []⟩, [(38, [none]), (19, [none]), (39, [none])], [], 0, false, []⟩
def t24 : VT :=
 (.lt (.bin .eql 3 false true) [64, J 5] 67 none
 (.ite 67
 (.lt (.bin .eql 2 false true) [65, J 0] 68 none
 (.done (68)))
 (.call 19 [64] 68 [none]
 (.lt (.bin .eql 3 false true) [68, J 1] 69 none
 (.ite 69
 (.call 38 [66] 70 [none]
 (.lt (.bin .eql 65 false true) [70, .int .u64 0] 71 none
 (.ite 71
 (.call 39 [64, 65] 72 [none]
 (.lt (.bin .eql 2 false false) [72, 65] 73 none
 (.done (73))))
 (.done (.bool false)))))
 (.done (.bool false)))))))
theorem may_wrap (v : GVal) (h1 : 1 ≤ v.kind) (h4 : v.kind ≤ 4) (hf : v.f = 0) : mayVal v = decide (wrapK v.kind v.i = v.i) := by
 obtain ⟨k, i, f⟩ := v
 simp only at h1 h4 hf
 subst hf
 unfold mayVal wrapK
 simp only
 rcases (by omega : k = 1 ∨ k = 2 ∨ k = 3 ∨ k = 4) with rfl | rfl | rfl | rfl
 ·by_cases h0 : i = 0
  ·subst h0; rfl
  ·simp only [h0, decide_false, Bool.not_false]
   show decide (i = 1) = decide ((1 : Int) = i)
   congr 1
   exact propext ⟨fun h => h.symm, fun h => h.symm⟩
 ·have e := wrapR_eq 65536 32768 i rfl (by omega)
  have e' := w16 i
  show decide (i = IntKind.i64.wrap (IntKind.i16.wrap i)) = decide (wrapR 65536 i = i)
  congr 1
  exact propext (e'.trans e.symm)
 ·have e := wrapR_eq 4294967296 2147483648 i rfl (by omega)
  have e' := w32 i
  show decide (i = IntKind.i64.wrap (IntKind.i32.wrap i)) = decide (wrapR 4294967296 i = i)
  congr 1
  exact propext (e'.trans e.symm)
 ·show decide ((4 : Int) = 4) = decide (i = i)
  simp
theorem p24 (v : GVal) : Pure Try.prog 24 [.agg (encVal v)] (.bool (mayVal v)) := by
 refine pure_shape (sh := [some 3]) (ls := encVal v) (c := c24) (n := 300) (t := t24) mo ov rfl rfl rfl (fun Y _ => known0 _) rfl (by kernel_rfl) fun Y hf hg => ?_
 unfold t24
 refine VOK_lt (run_eql ..) rfl (VOK_ite rfl (fun h5 => VOK_lt (run_eql ..) rfl (VOK_done ?_)) (fun h5 => VOK_call (p19 v.kind) rfl rfl (VOK_lt (run_eql ..) rfl (VOK_ite rfl (fun hw => ?_) (fun hw => VOK_done ?_)))))
 ·show AV.bool _ = _
  have h5 : v.kind = 5 := by simpa using h5
  simp [mayVal, h5]
 ·have h5 : ¬ v.kind = 5 := by simpa using h5
  have hv : isValue v.kind = true := (value_one v.kind).2 (by simpa using hw)
  unfold isValue at hv
  simp only [Bool.and_eq_true, decide_eq_true_eq] at hv
  refine VOK_call (p38 v.f) rfl rfl (VOK_lt (run_eql ..) rfl (VOK_ite rfl (fun h0 => ?_) (fun h0 => VOK_done ?_)))
  ·have h0 : v.f = 0 := (bitsF_0 v.f).1 (by simpa using h0)
   refine VOK_call (p39 v.kind v.i hv.1 (by omega)) rfl rfl (VOK_lt (run_eql ..) rfl (VOK_done ?_))
   rw [may_wrap v hv.1 (by omega) h0]; rfl
  ·have h0 : ¬ v.f = 0 := fun e => by rw [(bitsF_0 v.f).2 e] at h0; simp at h0
   show AV.bool _ = _
   simp [mayVal, h5, h0]
 ·show AV.bool _ = _
  have hw : ¬ ((cellsOf v.kind).length : Int) = 1 := by simpa using hw
  have hv : ¬ isValue v.kind = true := fun h => hw ((value_one v.kind).1 h)
  unfold isValue at hv
  simp only [Bool.and_eq_true, decide_eq_true_eq] at hv
  unfold mayVal
  repeat' split
  all_goals first
   | (exfalso; omega)
   | rfl
   | (have : ¬ v.kind = 4 := by omega
      simp [this])
def c45 : VC := ⟨⟨[], []⟩, [(0, [none])], [(0, [⟨[(3, .slx 0 0 0), (0, 64)], [], 0, 1, [], [], []⟩])], 0, false, []⟩
def t45 : VT :=
 (.loop 65 0 [J 0]
 (.cons 1
 (.lt (.len 9) [64] 66 none
 (.lt (.bin .lss 3 false false) [65, 66] 67 none
 (.ite 67
 (.lt (.idx 9) [64, 65] 68 none
 (.lt (.bin .geq 5 false true) [68, .int .u8 97] 69 none
 (.ite 69
 (.lt (.idx 9) [64, 65] 70 none
 (.lt (.bin .leq 5 false true) [70, .int .u8 122] 71 none
 (.lt (.un .not) [71] 72 none
 (.ite 72
 (.lt (.bin .eql 3 false true) [65, J 0] 73 none
 (.ite 73
 (.done (.bool false))
 (.lt (.idx 9) [64, 65] 74 none
 (.lt (.bin .lss 5 false true) [74, .int .u8 48] 75 none
 (.ite 75
 (.done (.bool false))
 (.lt (.idx 9) [64, 65] 76 none
 (.lt (.bin .gtr 5 false true) [76, .int .u8 57] 77 none
 (.ite 77
 (.done (.bool false))
 (.lt (.bin .add 3 false true) [65, J 1] 78 none
 (.again 0 0 [78]))))))))))
 (.lt (.bin .add 3 false true) [65, J 1] 73 none
 (.again 0 0 [73]))))))
 (.lt (.bin .eql 3 false true) [65, J 0] 70 none
 (.ite 70
 (.done (.bool false))
 (.lt (.idx 9) [64, 65] 71 none
 (.lt (.bin .lss 5 false true) [71, .int .u8 48] 72 none
 (.ite 72
 (.done (.bool false))
 (.lt (.idx 9) [64, 65] 73 none
 (.lt (.bin .gtr 5 false true) [73, .int .u8 57] 74 none
 (.ite 74
 (.done (.bool false))
 (.lt (.bin .add 3 false true) [65, J 1] 75 none
 (.again 0 0 [75])))))))))))))
 (.lt (.len 9) [64] 68 none
 (.lt (.bin .geq 3 false true) [68, J 1] 69 none
 (.ite 69
 (.lt (.len 9) [64] 70 none
 (.lt (.bin .leq 3 false true) [70, J 8] 71 none
 (.done (71))))
 (.done (.bool false))))))))
 .nil))
theorem p45 (s : List UInt8) (hs : s.length < 9223372036854775808) : Pure Try.prog 45 [.str s] (.bool (nameOk s)) := by
 refine pure_shape (sh := [none]) (ls := [.str s]) (c := c45) (n := 300) (t := t45) mo ov rfl rfl rfl (fun Y _ => known0 _) rfl (by kernel_rfl) fun Y hf hg => ?_
 unfold t45
 refine VOK_loop (ι := Nat) (fun n => [.int .i64 n]) (fun n => n ≤ s.length ∧ chars true s = chars (decide (n = 0)) (s.drop n)) (fun n => s.length - n) 0 ⟨Nat.zero_le _, rfl⟩ rfl (fun _ _ => rfl) (fun i j _ _ h => ?_) (fun n hn => ?_)
 ·simp at h; have h : i = j := by omega
  rw [h]
 obtain ⟨hn, hc⟩ := hn
 refine VOK_lt (run_len_str str9 s) rfl (VOK_lt (run_lss ..) rfl (VOK_ite rfl (fun hlt => ?_) (fun hlt => ?_)))
 ·have hlt : n < s.length := by simp only [decide_eq_true_eq] at hlt; omega
  have hx := chars_at s n hlt
  have hw : IntKind.i64.wrap ((n : Int) + 1) = ((n + 1 : Nat) : Int) := by rw [wrap64 (by omega) (by omega)]; rfl
  have hno : okCh (decide (n = 0)) s[n] = false → AV.bool false = AV.bool (nameOk s) := fun h => by unfold nameOk; rw [hc, hx, h]; simp
  have ag : okCh (decide (n = 0)) s[n] = true → chars true s = chars (decide (n + 1 = 0)) (s.drop (n + 1)) := fun h => by rw [hc, hx, h]; simp
  repeat' (first
   | refine VOK_lt (run_idx_str str9 s .i64 n hlt) rfl ?_
   | refine VOK_lt (run_geq ..) rfl ?_
   | refine VOK_lt (run_leq ..) rfl ?_
   | refine VOK_lt (run_lss ..) rfl ?_
   | refine VOK_lt (run_gtr ..) rfl ?_
   | refine VOK_lt (run_eql ..) rfl ?_
   | refine VOK_lt (run_not ..) rfl ?_
   | refine VOK_lt (run_add ..) rfl ?_
   | refine VOK_ite rfl (fun h => ?_) (fun h => ?_)
   | refine VOK_again rfl ⟨n + 1, ⟨by omega, ?_⟩, ?_, by omega⟩
   | refine VOK_done ?_)
  all_goals (simp only [decide_eq_true_eq, decide_eq_false_iff_not, Bool.not_eq_true', Bool.not_eq_false'] at *)
  all_goals first
   | exact congrArg (fun x => [AV.int .i64 x]) hw
   | (refine hno ?_; simp [okCh]; omega)
   | (refine ag ?_; simp [okCh]; omega)
 ·have he : n = s.length := by simp only [decide_eq_false_iff_not] at hlt; omega
  have hall : chars true s = true := by
   rw [hc, he, List.drop_length]
   cases s <;> rfl
  refine VOK_lt (run_len_str str9 s) rfl (VOK_lt (run_geq ..) rfl (VOK_ite rfl (fun h1 => VOK_lt (run_len_str str9 s) rfl (VOK_lt (run_leq ..) rfl (VOK_done ?_))) (fun h1 => VOK_done ?_)))
  ·have h1 : 1 ≤ s.length := by simp only [decide_eq_true_eq] at h1; omega
   show AV.bool (decide ((s.length : Int) ≤ 8)) = _
   have e8 : decide ((s.length : Int) ≤ 8) = decide (s.length ≤ 8) := decide_eq_decide.2 (by omega)
   rw [e8]
   simp [nameOk, hall, h1]
  ·have h1 : ¬ 1 ≤ s.length := by simp only [decide_eq_false_iff_not] at h1; omega
   show AV.bool false = _
   have h1' : s.length = 0 := by omega
   simp [nameOk, h1']
theorem block_of {k : Int} (h : ¬ ((cellsOf k).length : Int) = 1) : isValue k = false := by
 cases hx : isValue k with
 | false => rfl
 | true => exact absurd ((value_one k).1 hx) h
theorem value_of {k : Int} (h : ((cellsOf k).length : Int) = 1) : isValue k = true := (value_one k).2 h
def c31 : VC := ⟨⟨[], []⟩, [(45, [none]), (46, [none]), (24, [none]), (19, [none])], [], 0, false, []⟩
def t31 : VT :=
 (.call 45 [64] 74 [none]
 (.lt (.un .not) [74] 75 none
 (.ite 75
 (.done (.bool false))
 (.lt (.bin .lss 3 false true) [65, J 1] 76 none
 (.ite 76
 (.done (.bool false))
 (.lt (.bin .gtr 3 false true) [65, J 3] 77 none
 (.ite 77
 (.done (.bool false))
 (.call 19 [66] 78 [none]
 (.lt (.bin .eql 3 false true) [78, J 0] 79 none
 (.ite 79
 (.done (.bool false))
 (.lt (.bin .lss 3 false true) [67, J 0] 80 none
 (.ite 80
 (.done (.bool false))
 (.lt (.bin .gtr 3 false true) [67, J 8] 81 none
 (.ite 81
 (.done (.bool false))
 (.call 19 [66] 82 [none]
 (.lt (.bin .gtr 3 false true) [82, J 1] 83 none
 (.ite 83
 (.lt (.bin .eql 3 false true) [67, J 0] 84 none
 (.ite 84
 (.lt (.bin .eql 3 false true) [65, J 3] 85 none
 (.ite 85
 (.call 46 [.agg [68, 69, 70]] 86 [none]
 (.ite 86
 (.call 46 [.agg [71, 72, 73]] 87 [none]
 (.done (87)))
 (.done (.bool false))))
 (.done (.bool false))))
 (.done (.bool false))))
 (.call 24 [.agg [68, 69, 70]] 84 [none]
 (.lt (.un .not) [84] 85 none
 (.ite 85
 (.done (.bool false))
 (.lt (.bin .neq 3 false false) [68, 66] 86 none
 (.ite 86
 (.done (.bool false))
 (.lt (.bin .neq 3 false true) [65, J 2] 87 none
 (.ite 87
 (.call 46 [.agg [71, 72, 73]] 88 [none]
 (.done (88)))
 (.call 24 [.agg [71, 72, 73]] 88 [none]
 (.ite 88
 (.lt (.bin .eql 3 false false) [71, 66] 89 none
 (.done (89)))
 (.done (.bool false))))))))))))))))))))))))))))
theorem p31 (v : GVar) (hv : Plain v) : Pure Try.prog 31 [.agg (encVar v)] (.bool (mayVar v)) := by
 have hone := value_one v.kind
 refine pure_shape (sh := [some 10]) (ls := encVar v) (c := c31) (n := 300) (t := t31) mo ov rfl rfl rfl (fun Y _ => known0 _) rfl (by kernel_rfl) fun Y hf hg => ?_
 unfold t31
 repeat' (first
  | refine VOK_call (p45 v.name hv.2.2) rfl rfl ?_
  | refine VOK_call (p19 v.kind) rfl rfl ?_
  | refine VOK_call (p46 v.first) rfl rfl ?_
  | refine VOK_call (p46 v.safe) rfl rfl ?_
  | refine VOK_call (p24 v.first) rfl rfl ?_
  | refine VOK_call (p24 v.safe) rfl rfl ?_
  | refine VOK_lt (run_lss ..) rfl ?_
  | refine VOK_lt (run_gtr ..) rfl ?_
  | refine VOK_lt (run_eql ..) rfl ?_
  | refine VOK_lt (run_neq ..) rfl ?_
  | refine VOK_lt (run_not ..) rfl ?_
  | refine VOK_ite rfl (fun h => ?_) (fun h => ?_)
  | refine VOK_done ?_)
 all_goals (simp only [decide_eq_true_eq, decide_eq_false_iff_not, Bool.not_eq_true', Bool.not_eq_false'] at *)
 all_goals (try have hkind := block_of (k := v.kind) (by omega))
 all_goals (try have hkind := value_of (k := v.kind) (by omega))
 all_goals first
  | contradiction
  | (show AV.bool _ = _; unfold mayVar; simp only [*, if_true, if_false, reduceIte, Bool.false_eq_true, Bool.true_eq_false, reduceCtorEq]; done)
  | (show AV.bool _ = _; unfold mayVar; simp only [*, if_true, if_false, reduceIte, Bool.false_eq_true, Bool.true_eq_false, reduceCtorEq]; rfl)
  | (show AV.bool _ = _; unfold mayVar ofKind; simp [*]; done)
  | (show AV.bool (nought v.safe) = _
     cases hn : nought v.safe
     all_goals (unfold mayVar ofKind; simp only [*, if_true, if_false, reduceIte, Bool.false_eq_true, Bool.true_eq_false, reduceCtorEq, decide_true, decide_false, Bool.and_self, Bool.true_and, Bool.false_and, eq_self]; done))
  | (rename_i hs hn r1 r3 c0 s0 s8 cw hm hk
     show AV.bool (decide (v.safe.kind = v.kind)) = _
     have e : mayVar v = if ofKind v.safe v.kind = true then ofKind v.first v.kind else false := by
      unfold mayVar
      rw [if_neg (by rw [hn]; simp), if_neg r1, if_neg r3, if_neg c0, if_neg s0, if_neg s8, if_neg (by rw [hkind]; simp), if_pos h]
     rw [e]
     unfold ofKind
     rw [hs, hm, hk]
     by_cases hsk : v.safe.kind = v.kind
     ·rw [hsk]; simp
     ·simp [hsk])
end Go.Proofs.Ytbceomdmpbmnkaa.vars
set_option maxRecDepth 100000
set_option linter.unusedVariables false
set_option linter.unusedSimpArgs false
namespace Go.Proofs.Ytbceomdmpbmnkaa.vars
open Go Go.Sx
structure Own (l : List GVar) : Prop where
 may : mayE l = 0
 all : l.all mayVar = true
 le : l.length ≤ 12
 plain : ∀ v ∈ l, Plain v
theorem Own.sum {l : List GVar} (h : Own l) : sumW l 0 = ((firstF l).length : Int) := by
 have := sumW_tot l 0 h.all (by have := h.le; omega)
 simpa using this
theorem Own.sumT {l : List GVar} (h : Own l) (i : Nat) : sumW (l.take i) 0 = ((firstF (l.take i)).length : Int) := by
 have := sumW_tot (l.take i) 0 (all_take h.all i) (by rw [List.length_take]; have := h.le; omega)
 simpa using this
theorem own_of {l : List GVar} (h : mayE l = 0) (hz : ∀ v ∈ l, Plain v) : Own l := by
 obtain ⟨h1, h2, _, _⟩ := may_all h
 exact ⟨h, h1, h2, hz⟩
theorem keys_le : ∀ (l : List GVar) (ks : List (List UInt8)), (keysOf l ks).length ≤ ks.length + l.length
 | [], ks => by simp [keysOf]
 | v :: r, ks => by
   have := keys_le r (addKey ks v.name)
   simp only [keysOf, List.length_cons]
   unfold addKey at this ⊢
   split at this
   ·rename_i h; rw [if_pos h]; omega
   ·rename_i h; rw [if_neg h]; simp only [List.length_append, List.length_cons, List.length_nil] at this; omega
theorem keys_lt : ∀ (l : List GVar) (ks : List (List UInt8)), (¬ (l.map GVar.name).Nodup ∨ ∃ v, v ∈ l ∧ v.name ∈ ks) → (keysOf l ks).length < ks.length + l.length
 | [], ks, h => by
   rcases h with h | ⟨v, hv, _⟩
   ·exact absurd List.nodup_nil h
   ·cases hv
 | v :: r, ks, h => by
   simp only [keysOf, List.length_cons]
   by_cases hm : v.name ∈ ks
   ·have := keys_le r ks
    unfold addKey
    rw [if_pos hm]; omega
   ·have e : addKey ks v.name = ks ++ [v.name] := by unfold addKey; rw [if_neg hm]
    rw [e]
    have := keys_lt r (ks ++ [v.name]) (by
     rcases h with h | ⟨u, hu, hk⟩
     ·rw [List.map_cons, List.nodup_cons] at h
      by_cases hv : v.name ∈ r.map GVar.name
      ·obtain ⟨u, hu, e⟩ := List.mem_map.1 hv
       exact .inr ⟨u, hu, by rw [e]; simp⟩
      ·exact .inl fun hn => h ⟨hv, hn⟩
     ·rcases List.mem_cons.1 hu with rfl | hu
      ·exact absurd hk hm
      ·exact .inr ⟨u, hu, List.mem_append_left _ hk⟩)
    simp only [List.length_append, List.length_cons, List.length_nil] at this
    omega
theorem fa50_0 (v : GVar) (r : List AV) : (XOp.faddr 50 0).run Try.prog [.vptr (encVar v ++ r)] = some (.vptr (.str v.name :: ([.int .i64 v.role, .int .i64 v.kind, .int .i64 v.size, .int .i64 v.first.kind, .int .i64 v.first.i, .flt .f64 v.first.f, .int .i64 v.safe.kind, .int .i64 v.safe.i, .flt .f64 v.safe.f] ++ r))) := by kernel_rfl
theorem fa50_2 (v : GVar) (r : List AV) : (XOp.faddr 50 2).run Try.prog [.vptr (encVar v ++ r)] = some (.vptr (.int .i64 v.kind :: ([.int .i64 v.size, .int .i64 v.first.kind, .int .i64 v.first.i, .flt .f64 v.first.f, .int .i64 v.safe.kind, .int .i64 v.safe.i, .flt .f64 v.safe.f] ++ r))) := by kernel_rfl
theorem fa50_4 (v : GVar) (r : List AV) : (XOp.faddr 50 4).run Try.prog [.vptr (encVar v ++ r)] = some (.vptr (encVal v.first ++ ([.int .i64 v.safe.kind, .int .i64 v.safe.i, .flt .f64 v.safe.f] ++ r))) := by kernel_rfl
theorem ia22' {l : List GVar} {i : Nat} (h : i < l.length) : (XOp.iaddr 22).run Try.prog [vrs l, .int .i64 (i : Int)] = some (.vptr (encVar l[i] ++ encL encVar (l.drop (i + 1)))) := by
 have := ia22 h
 rw [List.drop_eq_getElem_cons h] at this
 exact this
theorem ld9x (x : AV) (r : List AV) : (XOp.load 9).run Try.prog [.vptr (x :: r)] = some x := run_load_one Try.underlying9 rfl x r
theorem ld3 (x : AV) (r : List AV) : (XOp.load 3).run Try.prog [.vptr (x :: r)] = some x := run_load_one Try.underlying3 rfl x r
theorem ld25 (v : GVal) (r : List AV) : (XOp.load 25).run Try.prog [.vptr (encVal v ++ r)] = some (.agg (encVal v)) := by kernel_rfl
theorem okRow {α : Type} {enc : α → List AV} (h : ∀ a, okL (enc a) = true) (a : α) (l : List α) : okL (enc a ++ encL enc l) = true := encL_ok h (a :: l)
theorem okTail {α : Type} {enc : α → List AV} (h : ∀ a, okL (enc a) = true) (l : List α) (p : List AV) (hp : okL p = true) : okL (p ++ encL enc l) = true := by
 have := encL_ok h l
 induction p with
 | nil => exact this
 | cons a r ih =>
   rw [okL_cons] at hp
   obtain ⟨k1, k2⟩ := and_split hp
   rw [List.cons_append, okL_cons, k1, ih k2]; rfl
def c13 : VC := ⟨⟨[], []⟩, [(31, [none]), (28, [none])], [(0, [⟨[(3, .slx 0 0 0), (0, 64), (4, .slx 1 0 0)], [], 0, 2, [], [], []⟩]), (2, [⟨[(5, .slx 0 0 0), (0, 64)], [], 0, 1, [], [], []⟩]), (4, [⟨[(6, .slx 0 0 0), (0, 64), (5, 72)], [], 0, 1, [], [], []⟩])], 0, false, []⟩
def t13 : VT :=
 (.lt (.len 22) [64] 65 none
 (.lt (.bin .gtr 3 false true) [65, J 12] 66 none
 (.ite 66
 (.done (J 1))
 (.loop 67 0 [J 0, J 0]
 (.cons 2
 (.lt (.len 22) [64] 69 none
 (.lt (.bin .lss 3 false false) [68, 69] 70 none
 (.ite 70
 (.lt (.iaddr 22) [64, 68] 71 none
 (.lt (.load 50) [71] 72 (some 10)
 (.call 31 [.agg [72, 73, 74, 75, 76, 77, 78, 79, 80, 81]] 82 [none]
 (.lt (.un .not) [82] 83 none
 (.ite 83
 (.done (J 1))
 (.lt (.iaddr 22) [64, 68] 84 none
 (.lt (.load 50) [84] 85 (some 10)
 (.call 28 [.agg [85, 86, 87, 88, 89, 90, 91, 92, 93, 94]] 95 [none]
 (.lt (.bin .add 3 false false) [67, 95] 96 none
 (.lt (.bin .add 3 false true) [68, J 1] 97 none
 (.again 0 0 [96, 97])))))))))))
 (.lt (.bin .gtr 3 false true) [67, J 64] 71 none
 (.ite 71
 (.done (J 1))
 (.loop 72 0 [J 0]
 (.cons 1
 (.lt (.len 22) [64] 73 none
 (.lt (.bin .lss 3 false false) [72, 73] 74 none
 (.ite 74
 (.loop 75 0 [J 0]
 (.cons 1
 (.lt (.bin .lss 3 false false) [75, 72] 76 none
 (.ite 76
 (.lt (.iaddr 22) [64, 72] 77 none
 (.lt (.faddr 50 0) [77] 78 none
 (.lt (.load 9) [78] 79 none
 (.lt (.iaddr 22) [64, 75] 80 none
 (.lt (.faddr 50 0) [80] 81 none
 (.lt (.load 9) [81] 82 none
 (.lt (.bin .eql 9 false false) [79, 82] 83 none
 (.ite 83
 (.done (J 3))
 (.lt (.bin .add 3 false true) [75, J 1] 84 none
 (.again 2 0 [84]))))))))))
 (.lt (.bin .add 3 false true) [72, J 1] 77 none
 (.again 1 0 [77]))))
 .nil))
 (.done (J 0)))))
 .nil)))))))
 .nil)))))
theorem p13 (l : List GVar) (hl : l.length ≤ 1000) (hz : ∀ v ∈ l, Plain v) : Pure Try.prog 13 [vrs l] (.int .i64 (mayE l)) := by
 refine pure_shape (sh := [none]) (ls := [vrs l]) (c := c13) (n := 300) (t := t13) mo ov rfl (okC1 (okVrs l)) rfl (fun Y _ => known0 _) rfl (by kernel_rfl) fun Y hf hg => ?_
 unfold t13
 refine VOK_lt (len22 l) rfl (VOK_lt (run_gtr ..) rfl (VOK_ite rfl (fun h => VOK_done ?_) (fun h12 => ?_)))
 ·show AV.int .i64 1 = _
  have h : 12 < l.length := by simp only [decide_eq_true_eq] at h; omega
  simp only [mayE, h, or_true, if_true]
 have h12 : l.length ≤ 12 := by simp only [decide_eq_false_iff_not] at h12; omega
 have h12' : ¬ 12 < l.length := by omega
 refine VOK_loop (ι := Nat) (fun i => [.int .i64 (sumW (l.take i) 0), .int .i64 i]) (fun i => i ≤ l.length ∧ (l.take i).all mayVar = true) (fun i => l.length - i) 0 ⟨Nat.zero_le _, rfl⟩ rfl
  (fun i _ => rfl) (fun i j _ _ h => ?_) (fun i hi => ?_)
 ·simp at h; have h : i = j := by omega
  rw [h]
 obtain ⟨hi, hall⟩ := hi
 refine VOK_lt (len22 l) rfl (VOK_lt (run_lss ..) rfl (VOK_ite rfl (fun hlt => ?_) (fun hlt => ?_)))
 ·have hlt : i < l.length := by simp only [decide_eq_true_eq] at hlt; omega
  refine VOK_lt (ia22 hlt) (encL_ok okVar _) (VOK_ltN (ld50 hlt) rfl rfl (VOK_call (p31 l[i] (hz _ (List.getElem_mem hlt))) rfl rfl (VOK_lt (run_not ..) rfl (VOK_ite rfl (fun h => VOK_done ?_) (fun h => ?_)))))
  ·show AV.int .i64 1 = _
   have hm : l.all mayVar = false := by
    rw [List.all_eq_false]
    exact ⟨l[i], List.getElem_mem hlt, by simpa using h⟩
   simp only [mayE, hm, true_or, if_true]
  have hmv : mayVar l[i] = true := by simpa using h
  refine VOK_lt (ia22 hlt) (encL_ok okVar _) (VOK_ltN (ld50 hlt) rfl rfl (VOK_call (p28 l[i] hmv) rfl rfl (VOK_lt (run_add ..) rfl (VOK_lt (run_add ..) rfl (VOK_again rfl ⟨i + 1, ⟨hlt, ?_⟩, ?_, by omega⟩)))))
  ·rw [take_snoc l hlt, List.all_append, hall]; simp [hmv]
  ·rw [take_snoc l hlt, sumW_snoc, ← wrapS hlt (by omega)]; rfl
 have he : i = l.length := by simp only [decide_eq_false_iff_not] at hlt; omega
 subst he
 rw [List.take_length] at hall
 have h1 : ¬ (l.all mayVar = false ∨ 12 < l.length) := by rw [hall]; simp [h12']
 refine VOK_lt (run_gtr ..) rfl (VOK_ite rfl (fun h => VOK_done ?_) (fun h64 => ?_))
 ·rw [List.take_length] at h
  simp only [decide_eq_true_eq] at h
  show AV.int .i64 1 = _
  unfold mayE
  rw [if_neg h1, if_pos h]
 rw [List.take_length] at h64
 simp only [decide_eq_false_iff_not] at h64
 refine VOK_loop (ι := Nat) (fun i => [.int .i64 i]) (fun i => i ≤ l.length ∧ ((l.take i).map GVar.name).Nodup) (fun i => l.length - i) 0 ⟨Nat.zero_le _, by simp⟩ rfl
  (fun i _ => rfl) (fun i j _ _ h => ?_) (fun i hi => ?_)
 ·simp at h; have h : i = j := by omega
  rw [h]
 obtain ⟨hi, hnd⟩ := hi
 refine VOK_lt (len22 l) rfl (VOK_lt (run_lss ..) rfl (VOK_ite rfl (fun hlt => ?_) (fun hlt => VOK_done ?_)))
 rotate_left
 ·have he : i = l.length := by simp only [decide_eq_false_iff_not] at hlt; omega
  subst he
  rw [List.take_length] at hnd
  have hk := keys_nodup l [] hnd (fun _ _ h => by cases h)
  show AV.int .i64 0 = _
  unfold mayE
  rw [if_neg h1, if_neg h64, if_neg (by rw [hk]; simp)]
 have hlt : i < l.length := by simp only [decide_eq_true_eq] at hlt; omega
 refine VOK_loop (ι := Nat) (fun k => [.int .i64 k]) (fun k => k ≤ i ∧ ∀ q (h : q < k) (h' : q < l.length), l[q].name ≠ l[i].name) (fun k => i - k) 0 ⟨Nat.zero_le _, fun q h => absurd h (Nat.not_lt_zero _)⟩ rfl
  (fun i _ => rfl) (fun i j _ _ h => ?_) (fun k hk => ?_)
 ·simp at h; have h : i = j := by omega
  rw [h]
 obtain ⟨hk, hne⟩ := hk
 refine VOK_lt (run_lss ..) rfl (VOK_ite rfl (fun hkl => ?_) (fun hkl => VOK_lt (run_add ..) rfl (VOK_again rfl ⟨i + 1, ⟨hlt, ?_⟩, ?_, by omega⟩)))
 ·have hki : k < i := by simp only [decide_eq_true_eq] at hkl; omega
  have hkl : k < l.length := by omega
  refine VOK_lt (ia22' hlt) (okRow okVar l[i] _) (VOK_lt (fa50_0 ..) (encL_ok okVar (l.drop (i + 1))) (VOK_lt (ld9x ..) rfl (VOK_lt (ia22' hkl) (okRow okVar l[k] _) (VOK_lt (fa50_0 ..) (encL_ok okVar (l.drop (k + 1))) (VOK_lt (ld9x ..) rfl (VOK_lt (run_eqs ..) rfl (VOK_ite rfl (fun h => VOK_done ?_) (fun h => VOK_lt (run_add ..) rfl (VOK_again rfl ⟨k + 1, ⟨hki, fun q hq hq' => ?_⟩, ?_, by omega⟩)))))))))
  ·have h : l[i].name = l[k].name := of_decide_eq_true h
   have hn : ¬ (l.map GVar.name).Nodup := fun hn => by
    have := List.pairwise_iff_getElem.1 hn k i (by simpa using hkl) (by simpa using hlt) hki
    exact this (by simp [h])
   have := keys_lt l [] (.inl hn)
   show AV.int .i64 3 = _
   unfold mayE
   rw [if_neg h1, if_neg h64, if_pos (by simpa using this)]
  ·rcases (by omega : q < k ∨ q = k) with h' | rfl
   ·exact hne q h' hq'
   ·exact fun e => (of_decide_eq_false h) e.symm
  ·rw [← wrapS hkl (by omega)]; rfl
 ·have hki : k = i := by simp only [decide_eq_false_iff_not] at hkl; omega
  subst hki
  rw [take_snoc l hlt, List.map_append, List.nodup_append]
  refine ⟨hnd, by simp, fun a ha b hb => ?_⟩
  simp only [List.map_cons, List.map_nil, List.mem_cons, List.not_mem_nil, or_false] at hb
  subst hb
  obtain ⟨u, hu, rfl⟩ := List.mem_map.1 ha
  obtain ⟨q, hq⟩ := List.getElem?_of_mem hu
  rw [List.getElem?_take] at hq
  split at hq
  ·rename_i hqk
   obtain ⟨hq', e⟩ := List.getElem?_eq_some_iff.1 hq
   rw [← e]
   exact hne q hqk hq'
  ·cases hq
 ·rw [← wrapS hlt (by omega)]; rfl
def c10 : VC := ⟨⟨[], []⟩, [(13, [none]), (28, [none])], [(0, [⟨[(6, .slx 0 0 0), (0, 64), (5, .slx 1 0 0), (4, .slx 0 1 2)], [], 1, 3, [⟨0, 1, 2, 4, none⟩], [], []⟩])], 0, false, []⟩
def t10 : VT :=
 (.call 13 [64] 65 [none]
 (.lt (.bin .neq 35 false true) [65, J 0] 66 none
 (.ite 66
 (.done (.tup [.nsl, J 0]))
 (.loop 67 0 [J 0, J 0, .nsl]
 (.cons 3
 (.lt (.len 22) [64] 70 none
 (.lt (.bin .lss 3 false false) [67, 70] 71 none
 (.ite 71
 (.lt (.app 1 8) [69, .agg [68]] 72 none
 (.lt (.iaddr 22) [64, 67] 73 none
 (.lt (.load 50) [73] 74 (some 10)
 (.call 28 [.agg [74, 75, 76, 77, 78, 79, 80, 81, 82, 83]] 84 [none]
 (.lt (.bin .add 3 false false) [68, 84] 85 none
 (.lt (.bin .add 3 false true) [67, J 1] 86 none
 (.again 0 0 [86, 85, 72])))))))
 (.done (.tup [69, 68])))))
 .nil)))))
theorem p10 (l : List GVar) (h : Own l) : Pure Try.prog 10 [vrs l] (.tup [ints (addrsF l 0), .int .i64 (sumW l 0)]) := by
 have h12 := h.le
 have hall := h.all
 refine pure_shape (sh := [none]) (ls := [vrs l]) (c := c10) (n := 300) (t := t10) mo ov rfl (okC1 (okVrs l)) (by simp [noRef, noRefL, okC_noRef (okInts _)]) (fun Y _ => known0 _) rfl (by kernel_rfl) fun Y hf hg => ?_
 unfold t10
 have p13' := p13 l (by omega) h.plain
 rw [h.may] at p13'
 refine VOK_call p13' rfl rfl (VOK_lt (run_neq ..) rfl (VOK_ite rfl (fun h => by cases h) (fun _ => ?_)))
 refine VOK_loop (ι := Nat) (fun i => [.int .i64 i, .int .i64 (sumW (l.take i) 0), ints (addrsF (l.take i) 0)]) (fun i => i ≤ l.length) (fun i => l.length - i) 0 (Nat.zero_le _) rfl
  (fun i _ => by simp only [okL, okC, okInts]) (fun i j _ _ h => ?_) (fun i hi => ?_)
 ·simp at h; have h : i = j := by omega
  rw [h]
 refine VOK_lt (len22 l) rfl (VOK_lt (run_lss ..) rfl (VOK_ite rfl (fun hlt => ?_) (fun hlt => VOK_done ?_)))
 ·have hlt : i < l.length := by simp only [decide_eq_true_eq] at hlt; omega
  have hmv : mayVar l[i] = true := by rw [List.all_eq_true] at hall; exact hall _ (List.getElem_mem hlt)
  refine VOK_lt (app1_8 _ _ (by rw [addrsF_len, List.length_take]; omega)) (okInts _) (VOK_lt (ia22 hlt) (encL_ok okVar _) (VOK_ltN (ld50 hlt) rfl rfl (VOK_call (p28 l[i] hmv) rfl rfl (VOK_lt (run_add ..) rfl (VOK_lt (run_add ..) rfl (VOK_again rfl ⟨i + 1, hlt, ?_, by omega⟩))))))
  rw [take_snoc l hlt, sumW_snoc, addrsF_snoc, ← wrapS hlt (by omega)]; rfl
 ·have he : i = l.length := by simp only [decide_eq_false_iff_not] at hlt; omega
  subst he
  show AV.tup [ints (addrsF (l.take l.length) 0), .int .i64 (sumW (l.take l.length) 0)] = _
  rw [List.take_length]
def c11 : VC := ⟨⟨[], []⟩, [(13, [none]), (19, [none]), (29, [none]), (22, [(some 3)]), (28, [none])], [(0, [⟨[(4, .slx 0 0 0), (3, .slx 0 3 1), (0, 64)], [], 1, 2, [⟨0, 3, 1, 3, none⟩], [], []⟩]), (2, [⟨[(6, .slx 0 0 0), (5, 79), (3, .slx 0 3 1), (4, 67), (0, 64)], [], 1, 2, [⟨0, 3, 1, 3, none⟩], [], []⟩]), (4, [⟨[(7, .slx 0 0 0), (4, 67), (0, 64), (3, .slx 0 3 1)], [], 1, 2, [⟨0, 3, 1, 3, none⟩], [], []⟩])], 0, false, []⟩
def t11 : VT :=
 (.call 13 [64] 65 [none]
 (.lt (.bin .neq 35 false true) [65, J 0] 66 none
 (.ite 66
 (.done (.nsl))
 (.loop 67 0 [J 0, .nsl]
 (.cons 2
 (.lt (.len 22) [64] 69 none
 (.lt (.bin .lss 3 false false) [67, 69] 70 none
 (.ite 70
 (.lt (.iaddr 22) [64, 67] 71 none
 (.lt (.faddr 50 2) [71] 72 none
 (.lt (.load 3) [72] 73 none
 (.call 19 [73] 74 [none]
 (.lt (.bin .gtr 3 false true) [74, J 1] 75 none
 (.ite 75
 (.lt (.iaddr 22) [64, 67] 76 none
 (.lt (.faddr 50 2) [76] 77 none
 (.lt (.load 3) [77] 78 none
 (.call 29 [78] 79 [none]
 (.loop 80 0 [J 0, 68]
 (.cons 2
 (.lt (.len 30) [79] 82 none
 (.lt (.bin .lss 3 false false) [80, 82] 83 none
 (.ite 83
 (.lt (.iaddr 30) [79, 80] 84 none
 (.lt (.load 3) [84] 85 none
 (.call 22 [85] 86 [(some 3)]
 (.lt (.app 3 24) [81, .agg [86, 87, 88]] 89 none
 (.lt (.bin .add 3 false true) [80, J 1] 90 none
 (.again 1 0 [90, 89]))))))
 (.lt (.bin .add 3 false true) [67, J 1] 84 none
 (.again 0 0 [84, 81])))))
 .nil))))))
 (.loop 76 0 [J 0, 68]
 (.cons 2
 (.lt (.iaddr 22) [64, 67] 78 none
 (.lt (.load 50) [78] 79 (some 10)
 (.call 28 [.agg [79, 80, 81, 82, 83, 84, 85, 86, 87, 88]] 89 [none]
 (.lt (.bin .lss 3 false false) [76, 89] 90 none
 (.ite 90
 (.lt (.iaddr 22) [64, 67] 91 none
 (.lt (.faddr 50 4) [91] 92 none
 (.lt (.load 25) [92] 93 (some 3)
 (.lt (.app 3 24) [77, .agg [93, 94, 95]] 96 none
 (.lt (.bin .add 3 false true) [76, J 1] 97 none
 (.again 1 0 [97, 96]))))))
 (.lt (.bin .add 3 false true) [67, J 1] 91 none
 (.again 0 0 [91, 77])))))))
 .nil))))))))
 (.done (68)))))
 .nil)))))
theorem p11 (l : List GVar) (h : Own l) : Pure Try.prog 11 [vrs l] (vals (firstF l)) := by
 have h12 := h.le
 have hall := h.all
 refine pure_shape (sh := [none]) (ls := [vrs l]) (c := c11) (n := 300) (t := t11) mo ov rfl (okC1 (okVrs l)) (okC_noRef (okVals _)) (fun Y _ => known0 _) rfl (by kernel_rfl) fun Y hf hg => ?_
 unfold t11
 have p13' := p13 l (by omega) h.plain
 rw [h.may] at p13'
 refine VOK_call p13' rfl rfl (VOK_lt (run_neq ..) rfl (VOK_ite rfl (fun h => by cases h) (fun _ => ?_)))
 refine VOK_loop (ι := Nat) (fun i => [.int .i64 i, vals (firstF (l.take i))]) (fun i => i ≤ l.length) (fun i => l.length - i) 0 (Nat.zero_le _) rfl
  (fun i _ => by simp only [okL, okC, okVals]) (fun i j _ _ h => ?_) (fun i hi => ?_)
 ·simp at h; have h : i = j := by omega
  rw [h]
 have hfl : (firstF (l.take i)).length ≤ 8 * 12 := by
  have h1 := firstF_le (l.take i) (all_take hall i)
  have h2 : (l.take i).length ≤ 12 := by rw [List.length_take]; omega
  omega
 refine VOK_lt (len22 l) rfl (VOK_lt (run_lss ..) rfl (VOK_ite rfl (fun hlt => ?_) (fun hlt => VOK_done ?_)))
 rotate_left
 ·have he : i = l.length := by simp only [decide_eq_false_iff_not] at hlt; omega
  subst he
  show vals (firstF (l.take l.length)) = _
  rw [List.take_length]
 have hlt : i < l.length := by simp only [decide_eq_true_eq] at hlt; omega
 have hmv : mayVar l[i] = true := by rw [List.all_eq_true] at hall; exact hall _ (List.getElem_mem hlt)
 obtain ⟨hs1, hs2⟩ := size_le hmv
 obtain ⟨_, hc0, _⟩ := may_facts hmv
 have hcl := cells_le l[i].kind
 refine VOK_lt (ia22' hlt) (okRow okVar l[i] _) (VOK_lt (fa50_2 ..) (encL_ok okVar (l.drop (i + 1))) (VOK_lt (ld3 ..) rfl (VOK_call (p19 l[i].kind) rfl rfl (VOK_lt (run_gtr ..) rfl (VOK_ite rfl (fun hk => ?_) (fun hk => ?_))))))
 ·have hk' : 1 < (cellsOf l[i].kind).length := by simp only [decide_eq_true_eq] at hk; omega
  have hnv : isValue l[i].kind = false := by
   cases hv : isValue l[i].kind with
   | false => rfl
   | true => have := (value_one _).1 hv; omega
  have hfo : firstOf l[i] = (blockR l[i].kind).map zeroOf := by rw [blockR_eq hk']; unfold firstOf; rw [hnv]; rfl
  have hbl : (blockR l[i].kind).length ≤ 4 := by rw [blockR_eq hk']; exact hcl
  refine VOK_lt (ia22' hlt) (okRow okVar l[i] _) (VOK_lt (fa50_2 ..) (encL_ok okVar (l.drop (i + 1))) (VOK_lt (ld3 ..) rfl (VOK_call (p29 l[i].kind) rfl (okC1 (okInts _)) ?_)))
  refine VOK_loop (ι := Nat) (fun j => [.int .i64 j, vals (firstF (l.take i) ++ ((blockR l[i].kind).take j).map zeroOf)]) (fun j => j ≤ (blockR l[i].kind).length) (fun j => (blockR l[i].kind).length - j) 0 (Nat.zero_le _) (by simp only [List.take_zero, List.map_nil, List.append_nil]; rfl)
   (fun i _ => by simp only [okL, okC, okVals]) (fun i j _ _ h => ?_) (fun j hj => ?_)
  ·simp at h; have h : i = j := by omega
   rw [h]
  refine VOK_lt (len30 _) rfl (VOK_lt (run_lss ..) rfl (VOK_ite rfl (fun hjl => ?_) (fun hjl => ?_)))
  ·have hjl : j < (blockR l[i].kind).length := by simp only [decide_eq_true_eq] at hjl; omega
   refine VOK_lt (ia30 hjl) (encL_ok okI1 _) (VOK_lt (ld3i hjl) rfl (VOK_call (p22 (blockR l[i].kind)[j]) rfl rfl (VOK_lt (app3_24 _ _ (by rw [List.length_append, List.length_map, List.length_take]; omega)) (okVals _) (VOK_lt (run_add ..) rfl (VOK_again rfl ⟨j + 1, hjl, ?_, by omega⟩)))))
   rw [List.take_succ_eq_append_getElem hjl, List.map_append, ← wrapS hjl (by omega), ← List.append_assoc]; rfl
  ·have he : j = (blockR l[i].kind).length := by simp only [decide_eq_false_iff_not] at hjl; omega
   subst he
   refine VOK_lt (run_add ..) rfl (VOK_again rfl ⟨i + 1, hlt, ?_, by omega⟩)
   rw [take_snoc l hlt, firstF_snoc, hfo, ← wrapS hlt (by omega)]
   show [AV.int .i64 _, vals (firstF (l.take i) ++ ((blockR l[i].kind).take (blockR l[i].kind).length).map zeroOf)] = _
   rw [List.take_length]
 ·have hk' : (cellsOf l[i].kind).length = 1 := by simp only [decide_eq_false_iff_not] at hk; omega
  have hv : isValue l[i].kind = true := (value_one _).2 (by rw [hk']; rfl)
  have hfo : firstOf l[i] = List.replicate (sizeOf1 l[i]) l[i].first := by unfold firstOf; rw [hv]; rfl
  have hwf := wid_first hmv
  have hfl2 := firstOf_le hmv
  have hw : wid l[i] = ((sizeOf1 l[i] : Nat) : Int) := by rw [hwf, hfo, List.length_replicate]
  have hm8 : sizeOf1 l[i] ≤ 8 := by rw [hfo, List.length_replicate] at hfl2; exact hfl2
  generalize hm : sizeOf1 l[i] = m at hw hfo hm8
  refine VOK_loop (ι := Nat) (fun j => [.int .i64 j, vals (firstF (l.take i) ++ List.replicate j l[i].first)]) (fun j => j ≤ m) (fun j => m - j) 0 (Nat.zero_le _) (by simp only [List.replicate_zero, List.append_nil]; rfl)
   (fun i _ => by simp only [okL, okC, okVals]) (fun i j _ _ h => ?_) (fun j hj => ?_)
  ·simp at h; have h : i = j := by omega
   rw [h]
  have p28' := p28 l[i] hmv
  rw [hw] at p28'
  refine VOK_lt (ia22 hlt) (encL_ok okVar _) (VOK_ltN (ld50 hlt) rfl rfl (VOK_call p28' rfl rfl (VOK_lt (run_lss ..) rfl (VOK_ite rfl (fun hjl => ?_) (fun hjl => ?_)))))
  ·have hjl : j < m := by simp only [decide_eq_true_eq] at hjl; omega
   refine VOK_lt (ia22' hlt) (okRow okVar l[i] _) (VOK_lt (fa50_4 ..) (encL_ok okVar (l.drop (i + 1))) (VOK_ltN (ld25 ..) rfl rfl (VOK_lt (app3_24 _ _ (by rw [List.length_append, List.length_replicate]; omega)) (okVals _) (VOK_lt (run_add ..) rfl (VOK_again rfl ⟨j + 1, hjl, ?_, by omega⟩)))))
   have e : firstF (l.take i) ++ List.replicate (j + 1) l[i].first = firstF (l.take i) ++ List.replicate j l[i].first ++ [l[i].first] := by rw [List.replicate_succ', List.append_assoc]
   rw [e, ← wrapS hjl (by omega)]; rfl
  ·have he : j = m := by simp only [decide_eq_false_iff_not] at hjl; omega
   subst he
   refine VOK_lt (run_add ..) rfl (VOK_again rfl ⟨i + 1, hlt, ?_, by omega⟩)
   rw [take_snoc l hlt, firstF_snoc, hfo, ← wrapS hlt (by omega)]; rfl
end Go.Proofs.Ytbceomdmpbmnkaa.vars
set_option maxRecDepth 100000
set_option linter.unusedVariables false
set_option linter.unusedSimpArgs false
namespace Go.Proofs.Ytbceomdmpbmnkaa.vars
open Go Go.Sx
section
variable {Q : AV → Prop} {L : List (Nat → List AV → Prop)} {Y : Sy}
theorem VOK_iteF {i : Nat} {a b : VT} (h : Y.v i = some (.bool false)) (h2 : VOK Try.prog Q L Y b) : VOK Try.prog Q L Y (.ite i a b) := VOK_ite h (fun h => by cases h) (fun _ => h2)
theorem VOK_iteT {i : Nat} {a b : VT} (h : Y.v i = some (.bool true)) (h2 : VOK Try.prog Q L Y a) : VOK Try.prog Q L Y (.ite i a b) := VOK_ite h (fun _ => h2) (fun h => by cases h)
end
def c21 : VC := ⟨⟨[], []⟩, [(32, [none])], [], 0, false, []⟩
def t21 : VT :=
 (.call 32 [64] 65 [none]
 (.lt (.un .not) [65] 66 none
 (.ite 66
 (.done (.agg [J 0, J 0, .flt .f64 0]))
 (.done (.agg [64, J 0, .flt .f64 0])))))
theorem p21 (k : Int) : Pure Try.prog 21 [.int .i64 k] (.agg (encVal (zeroOf k))) := by
 refine pure_shape (sh := [none]) (ls := [.int .i64 k]) (c := c21) (n := 300) (t := t21) mo ov rfl rfl rfl (fun Y _ => known0 _) rfl (by kernel_rfl) fun Y hf hg => ?_
 unfold t21
 refine VOK_call (p32 k) rfl rfl (VOK_lt (run_not ..) rfl (VOK_ite rfl (fun h => VOK_done ?_) (fun h => VOK_done ?_)))
 ·have h' : isValue k = false := by simpa using h
  show AV.agg _ = _
  unfold zeroOf; rw [h']; rfl
 ·have h' : isValue k = true := by simpa using h
  show AV.agg _ = _
  unfold zeroOf; rw [h']; rfl
theorem p33 (v : GVal) (k : Nat) (h1 : 1 ≤ k) (h8 : k ≤ 8) : Pure Try.prog 33 [vals [v], .int .i64 (k : Int)] (vals (List.replicate k v)) := by
 have key : ∀ k : Nat, 1 ≤ k → @vFn gI Try.prog 300 ⟨⟨[], []⟩, [], [], 0, false, []⟩ 33 [.vsl 1 3 [.sym 64, .sym 65, .sym 66], .int .i64 (k : Int)] 67 = .done (.vsl k 3 (reps k)) → Pure Try.prog 33 [vals [v], .int .i64 (k : Int)] (vals (List.replicate k v)) := by
  intro k hk he
  refine pure_sym (ls := encVal v) (args' := [.vsl 1 3 [.sym 64, .sym 65, .sym 66], .int .i64 (k : Int)]) rfl (okC_noRef (okVals _)) rfl rfl (fun Y hf => rfl) fun Y hf hg => vFn_ok (c := ⟨⟨[], []⟩, [], [], 0, false, []⟩) (n := 67) mo (callN_ok mo ov 300) ⟨(hf.puts (encVal v)).1, known0 _⟩ ?_
  rw [he]
  have hd : denL (Y.puts 64 (encVal v)).v (reps k) = encL encVal (List.replicate k v) := by
   clear he hk
   induction k with
   | zero => rfl
   | succ k ih =>
     show denL (Y.puts 64 (encVal v)).v (.sym 64 :: .sym 65 :: .sym 66 :: reps k) = encVal v ++ encL encVal (List.replicate k v)
     simp only [denL, ih]
     rfl
  refine VOK_done ?_
  cases k with
  | zero => omega
  | succ k =>
    show AV.vsl (k + 1) 3 (denL (Y.puts 64 (encVal v)).v (reps (k + 1))) = _
    rw [hd]
    show _ = AV.vsl ((List.replicate k v).length + 1) 3 (encL encVal (v :: List.replicate k v))
    rw [List.length_replicate]; rfl
 rcases (by omega : k = 1 ∨ k = 2 ∨ k = 3 ∨ k = 4 ∨ k = 5 ∨ k = 6 ∨ k = 7 ∨ k = 8) with rfl | rfl | rfl | rfl | rfl | rfl | rfl | rfl
 all_goals exact key _ (by omega) (by kernel_rfl)
def c15 : VC := ⟨⟨[], []⟩, [(12, [none]), (32, [none]), (33, [none]), (34, [none]), (21, [(some 3)])], [(0, [⟨[(12, .slx 0 0 0), (2, .slx 0 3 1), (10, 64), (11, 67)], [], 1, 2, [⟨0, 3, 1, 2, none⟩], [], []⟩]), (2, [⟨[(32, .slx 0 0 0), (2, .slx 0 3 1), (30, 83), (12, 68), (10, 64), (11, 67), (31, 84)], [], 1, 2, [⟨0, 3, 1, 2, none⟩], [], []⟩])], 0, false, []⟩
def t15 : VT :=
 (.call 12 [64] 65 [none]
 (.lt (.bin .neq 35 false true) [65, J 0] 66 none
 (.ite 66
 (.done (.nsl))
 (.lt (.len 22) [64] 67 none
 (.loop 68 0 [J 0, .nsl]
 (.cons 2
 (.lt (.bin .lss 3 false false) [68, 67] 70 none
 (.ite 70
 (.lt (.iaddr 22) [64, 68] 71 none
 (.lt (.load 50) [71] 72 (some 10)
 (.call 32 [74] 82 [none]
 (.ite 82
 (.lt (.mm true) [75, J 1] 83 none
 (.call 33 [.vsl 1 3 [76, 77, 78], 83] 84 [none]
 (.lt (.app 3 24) [69, 84] 85 none
 (.lt (.bin .add 3 false true) [68, J 1] 86 none
 (.again 0 0 [86, 85])))))
 (.call 34 [74] 83 [none]
 (.lt (.len 30) [83] 84 none
 (.loop 85 0 [J 0, 69]
 (.cons 2
 (.lt (.bin .lss 3 false false) [85, 84] 87 none
 (.ite 87
 (.lt (.iaddr 30) [83, 85] 88 none
 (.lt (.load 3) [88] 89 none
 (.call 21 [89] 90 [(some 3)]
 (.lt (.app 3 24) [86, .agg [90, 91, 92]] 93 none
 (.lt (.bin .add 3 false true) [85, J 1] 94 none
 (.again 1 0 [94, 93]))))))
 (.lt (.bin .add 3 false true) [68, J 1] 88 none
 (.again 0 0 [88, 86]))))
 .nil))))))))
 (.done (69))))
 .nil))))))
theorem p15 (l : List GVar) (hl : l.length ≤ 1000) (hz : ∀ v ∈ l, Plain v) : Pure Try.prog 15 [vrs l] (if mayE l = 0 then vals (firstF l) else .nsl) := by
 refine pure_shape (sh := [none]) (ls := [vrs l]) (c := c15) (n := 300) (t := t15) mo ov rfl (okC1 (okVrs l)) (by split <;> simp [noRef, okC_noRef (okVals _)]) (fun Y _ => known0 _) rfl (by kernel_rfl) fun Y hf hg => ?_
 unfold t15
 refine VOK_call (p12 l hl hz) rfl rfl (VOK_lt (run_neq ..) rfl (VOK_ite rfl (fun h => VOK_done ?_) (fun h => VOK_lt (len22 l) rfl ?_)))
 ·have h' : ¬ mayE l = 0 := by simpa using h
  rw [if_neg h']; rfl
 have h' : mayE l = 0 := by simpa using h
 rw [if_pos h']
 obtain ⟨hall, h12, _, _⟩ := may_all h'
 refine VOK_loop (ι := Nat) (fun i => [.int .i64 i, vals (firstF (l.take i))]) (fun i => i ≤ l.length) (fun i => l.length - i) 0 (Nat.zero_le _) rfl
  (fun i _ => by simp only [okL, okC, okVals]) (fun i j _ _ h => ?_) (fun i hi => ?_)
 ·simp at h; have h : i = j := by omega
  rw [h]
 have hfl : (firstF (l.take i)).length ≤ 8 * 12 := by
  have h1 := firstF_le (l.take i) (all_take hall i)
  have h2 : (l.take i).length ≤ 12 := by rw [List.length_take]; omega
  omega
 refine VOK_lt (run_lss ..) rfl (VOK_ite rfl (fun hlt => ?_) (fun hlt => VOK_done ?_))
 ·have hlt : i < l.length := by simp only [decide_eq_true_eq] at hlt; omega
  have hmv : mayVar l[i] = true := by rw [List.all_eq_true] at hall; exact hall _ (List.getElem_mem hlt)
  obtain ⟨hs1, hs2⟩ := size_le hmv
  refine VOK_lt (ia22 hlt) (encL_ok okVar _) (VOK_ltN (ld50 hlt) rfl rfl (VOK_call (p32 l[i].kind) rfl rfl (VOK_ite rfl (fun hk => ?_) (fun hk => ?_))))
  ·have hmx : max l[i].size 1 = ((sizeOf1 l[i] : Nat) : Int) := by unfold sizeOf1; omega
   have hfo : firstOf l[i] = List.replicate (sizeOf1 l[i]) l[i].first := by unfold firstOf; rw [hk]; rfl
   refine VOK_lt (r := .int .i64 (sizeOf1 l[i] : Nat)) (by rw [← hmx]; exact run_max ..) rfl (VOK_call (p33 l[i].first (sizeOf1 l[i]) (by unfold sizeOf1; omega) (by unfold sizeOf1; omega)) rfl (okC1 (okVals _)) ?_)
   refine VOK_lt (apps3_24 _ _ (by rw [List.length_replicate]; unfold sizeOf1; omega)) (okVals _) (VOK_lt (run_add ..) rfl (VOK_again rfl ⟨i + 1, hlt, ?_, by omega⟩))
   rw [take_snoc l hlt, firstF_snoc, hfo, ← wrapS hlt hl]; rfl
  ·have hfo : firstOf l[i] = (cellsOf l[i].kind).map zeroOf := by unfold firstOf; rw [hk]; rfl
   have hcl := cells_le l[i].kind
   refine VOK_call (p34 l[i].kind) rfl (okC1 (okInts _)) (VOK_lt (len30 _) rfl ?_)
   refine VOK_loop (ι := Nat) (fun j => [.int .i64 j, vals (firstF (l.take i) ++ ((cellsOf l[i].kind).take j).map zeroOf)]) (fun j => j ≤ (cellsOf l[i].kind).length) (fun j => (cellsOf l[i].kind).length - j) 0 (Nat.zero_le _) (by simp only [List.take_zero, List.map_nil, List.append_nil]; rfl)
    (fun i _ => by simp only [okL, okC, okVals]) (fun i j _ _ h => ?_) (fun j hj => ?_)
   ·simp at h; have h : i = j := by omega
    rw [h]
   refine VOK_lt (run_lss ..) rfl (VOK_ite rfl (fun hjl => ?_) (fun hjl => ?_))
   ·have hjl : j < (cellsOf l[i].kind).length := by simp only [decide_eq_true_eq] at hjl; omega
    refine VOK_lt (ia30 hjl) (encL_ok okI1 _) (VOK_lt (ld3i hjl) rfl (VOK_call (p21 (cellsOf l[i].kind)[j]) rfl rfl (VOK_lt (app3_24 _ _ (by rw [List.length_append, List.length_map, List.length_take]; omega)) (okVals _) (VOK_lt (run_add ..) rfl (VOK_again rfl ⟨j + 1, hjl, ?_, by omega⟩)))))
    rw [List.take_succ_eq_append_getElem hjl, List.map_append, ← wrapS hjl (by omega), ← List.append_assoc]; rfl
   ·have he : j = (cellsOf l[i].kind).length := by simp only [decide_eq_false_iff_not] at hjl; omega
    subst he
    refine VOK_lt (run_add ..) rfl (VOK_again rfl ⟨i + 1, hlt, ?_, by omega⟩)
    rw [take_snoc l hlt, firstF_snoc, hfo, ← wrapS hlt hl]
    show [AV.int .i64 _, vals (firstF (l.take i) ++ ((cellsOf l[i].kind).take (cellsOf l[i].kind).length).map zeroOf)] = _
    rw [List.take_length]
 ·have he : i = l.length := by simp only [decide_eq_false_iff_not] at hlt; omega
  subst he
  show vals (firstF (l.take l.length)) = _
  rw [List.take_length]
theorem p10n (l : List GVar) (hl : l.length ≤ 1000) (hz : ∀ v ∈ l, Plain v) (hm : ¬ mayE l = 0) : Pure Try.prog 10 [vrs l] (.tup [.nsl, .int .i64 0]) := by
 refine pure_shape (sh := [none]) (ls := [vrs l]) (c := c10) (n := 300) (t := t10) mo ov rfl (okC1 (okVrs l)) rfl (fun Y _ => known0 _) rfl (by kernel_rfl) fun Y hf hg => ?_
 unfold t10
 have hne : (XOp.bin .neq 35 false true).run Try.prog [.int .i64 (mayE l), .int .i64 0] = some (.bool true) := by rw [run_neq, decide_eq_false hm]; rfl
 exact VOK_call (p13 l hl hz) rfl rfl (VOK_lt hne rfl (VOK_iteT rfl (VOK_done rfl)))
theorem p11n (l : List GVar) (hl : l.length ≤ 1000) (hz : ∀ v ∈ l, Plain v) (hm : ¬ mayE l = 0) : Pure Try.prog 11 [vrs l] .nsl := by
 refine pure_shape (sh := [none]) (ls := [vrs l]) (c := c11) (n := 300) (t := t11) mo ov rfl (okC1 (okVrs l)) rfl (fun Y _ => known0 _) rfl (by kernel_rfl) fun Y hf hg => ?_
 unfold t11
 have hne : (XOp.bin .neq 35 false true).run Try.prog [.int .i64 (mayE l), .int .i64 0] = some (.bool true) := by rw [run_neq, decide_eq_false hm]; rfl
 exact VOK_call (p13 l hl hz) rfl rfl (VOK_lt hne rfl (VOK_iteT rfl (VOK_done rfl)))
def c36 : VC := ⟨⟨[], []⟩, [(38, [none])], [], 0, true, []⟩
def t36 : VT :=
 (.call 38 [64] 66 [none]
 (.call 38 [65] 67 [none]
 (.lt (.bin .eql 65 false false) [66, 67] 68 none
 (.done (68)))))
theorem p36 (n : Nat) : Pure Try.prog 36 [.flt .f64 n, .flt .f64 n] (.bool true) := by
 refine pure_shape (sh := [none, none]) (ls := [.flt .f64 n, .flt .f64 n]) (c := c36) (n := 300) (t := t36) mo ov rfl rfl rfl (fun Y _ => known0 _) rfl (by kernel_rfl) fun Y hf hg => ?_
 unfold t36
 refine VOK_call (p38 n) rfl rfl (VOK_call (p38 n) rfl rfl (VOK_lt (run_eql ..) rfl (VOK_done ?_)))
 show AV.bool _ = _
 simp
def c20 : VC := ⟨⟨[], []⟩, [(36, [none])], [], 0, true, []⟩
def t20 : VT :=
 (.lt (.bin .eql 3 false false) [64, 67] 70 none
 (.ite 70
 (.lt (.bin .eql 2 false false) [65, 68] 71 none
 (.ite 71
 (.call 36 [66, 69] 72 [none]
 (.done (72)))
 (.done (.bool false))))
 (.done (.bool false))))
theorem p20 (v : GVal) : Pure Try.prog 20 [.agg (encVal v), .agg (encVal v)] (.bool true) := by
 refine pure_shape (sh := [some 3, some 3]) (ls := encVal v ++ encVal v) (c := c20) (n := 300) (t := t20) mo ov rfl rfl rfl (fun Y _ => known0 _) rfl (by kernel_rfl) fun Y hf hg => ?_
 unfold t20
 refine VOK_lt (run_eql ..) rfl (VOK_ite rfl (fun _ => ?_) (fun h => ?_))
 ·refine VOK_lt (run_eql ..) rfl (VOK_ite rfl (fun _ => VOK_call (p36 v.f) rfl rfl (VOK_done rfl)) (fun h => ?_))
  simp at h
 ·simp at h
def c14 : VC := ⟨⟨[], []⟩, [(20, [none])], [(0, [⟨[(5, .slx 0 0 0), (1, 65), (0, 64)], [], 0, 1, [], [], []⟩])], 0, true, []⟩
def t14 : VT :=
 (.lt (.len 33) [64] 66 none
 (.lt (.len 33) [65] 67 none
 (.lt (.bin .neq 3 false false) [66, 67] 68 none
 (.ite 68
 (.done (.bool false))
 (.loop 69 0 [J 0]
 (.cons 1
 (.lt (.len 33) [64] 70 none
 (.lt (.bin .lss 3 false false) [69, 70] 71 none
 (.ite 71
 (.lt (.iaddr 33) [64, 69] 72 none
 (.lt (.load 25) [72] 73 (some 3)
 (.lt (.iaddr 33) [65, 69] 76 none
 (.lt (.load 25) [76] 77 (some 3)
 (.call 20 [.agg [73, 74, 75], .agg [77, 78, 79]] 80 [none]
 (.lt (.un .not) [80] 81 none
 (.ite 81
 (.done (.bool false))
 (.lt (.bin .add 3 false true) [69, J 1] 82 none
 (.again 0 0 [82])))))))))
 (.done (.bool true)))))
 .nil))))))
theorem len33 (l : List GVal) : (XOp.len 33).run Try.prog [vals l] = some (.int .i64 (l.length : Int)) := run_len_sl Try.underlying33 l
theorem ia33 {l : List GVal} {i : Nat} (h : i < l.length) : (XOp.iaddr 33).run Try.prog [vals l, .int .i64 (i : Int)] = some (.vptr (encL encVal (l.drop i))) :=
 run_iaddr_sl (ti := (Try.prog.info? 25).get!) Try.underlying33 (by kernel_rfl) (by kernel_rfl) lenVal h .i64
theorem ld25i {l : List GVal} {i : Nat} (h : i < l.length) : (XOp.load 25).run Try.prog [.vptr (encL encVal (l.drop i))] = some (.agg (encVal l[i])) := by
 rw [List.drop_eq_getElem_cons h]
 exact ld25 _ _
theorem p14 (l : List GVal) (hl : l.length ≤ 1000) : Pure Try.prog 14 [vals l, vals l] (.bool true) := by
 refine pure_shape (sh := [none, none]) (ls := [vals l, vals l]) (c := c14) (n := 300) (t := t14) mo ov rfl (by simp only [okL, okVals]) rfl (fun Y _ => known0 _) rfl (by kernel_rfl) fun Y hf hg => ?_
 unfold t14
 refine VOK_lt (len33 l) rfl (VOK_lt (len33 l) rfl (VOK_lt (run_neq ..) rfl (VOK_ite rfl (fun h => ?_) (fun _ => ?_))))
 ·simp at h
 refine VOK_loop (ι := Nat) (fun i => [.int .i64 (i : Int)]) (fun i => i ≤ l.length) (fun i => l.length - i) 0 (Nat.zero_le _) rfl (fun i _ => rfl) (fun i j _ _ h => by simp at h; omega) (fun i hi => ?_)
 refine VOK_lt (len33 l) rfl (VOK_lt (run_lss ..) rfl (VOK_ite rfl (fun hlt => ?_) (fun hlt => VOK_done rfl)))
 have hlt : i < l.length := by simp only [decide_eq_true_eq] at hlt; omega
 refine VOK_lt (ia33 hlt) (encL_ok okVal _) (VOK_ltN (ld25i hlt) rfl rfl (VOK_lt (ia33 hlt) (encL_ok okVal _) (VOK_ltN (ld25i hlt) rfl rfl (VOK_call (p20 l[i]) rfl rfl (VOK_lt (run_not ..) rfl (VOK_iteF rfl (VOK_lt (run_add ..) rfl (VOK_again rfl ⟨i + 1, hlt, ?_, by omega⟩))))))))
 rw [← wrapS hlt (by omega)]; rfl
theorem p14e1 : Pure Try.prog 14 [.nsl, .vsl 0 3 []] (.bool true) := memo_ok (n := 300) mo ov (by kernel_rfl)
end Go.Proofs.Ytbceomdmpbmnkaa.vars
set_option linter.unusedVariables false
set_option linter.unusedSimpArgs false
namespace Go.Sx
section
variable {P : Program} {t : TypeId} {ti : TypeInfo} {α : Type} {enc : α → List AV} {w : Nat}
theorem setAt_app : ∀ (a xs b c : List AV), b.length = xs.length → setAt a.length xs (a ++ (b ++ c)) = some (a ++ (xs ++ c))
 | [], [], [], c, _ => by cases c <;> rfl
 | [], x :: xs, y :: b, c, h => by
   have ih := setAt_app [] xs b c (by simpa using h)
   simp only [List.nil_append, List.length_nil, List.cons_append] at ih ⊢
   simp only [setAt, ih]
 | [], x :: xs, [], c, h => by simp at h
 | [], [], y :: b, c, h => by simp at h
 | x :: a, xs, b, c, h => by
   simp only [List.cons_append, List.length_cons, setAt, setAt_app a xs b c h]
theorem cut_at (hw : ∀ a, (enc a).length = w) (l : List α) {i : Nat} (hi : i < l.length) : ∃ a b, encL enc l = a ++ (enc l[i] ++ b) ∧ a.length = i * w ∧ ∀ x, encL enc (l.set i x) = a ++ (enc x ++ b) := by
 refine ⟨encL enc (l.take i), encL enc (l.drop (i + 1)), ?_, ?_, fun x => ?_⟩
 ·have h1 : l = l.take i ++ l[i] :: l.drop (i + 1) := by rw [List.getElem_cons_drop, List.take_append_drop]
  have h2 := congrArg (encL enc) h1
  rw [encL_append] at h2
  exact h2
 ·rw [encL_length hw, List.length_take]; congr 1; omega
 ·rw [List.set_eq_take_append_cons_drop, if_pos hi, encL_append]; rfl
theorem run_stx (hw : ∀ a, (enc a).length = w) {l : List α} {i : Nat} (hi : i < l.length) {off : Nat} {v : AV} {xs p q r : List AV} {y : α} (hc : v.cells = xs) (ho : v = .agg xs ∨ (∃ k n, v = .int k n) ∨ (∃ b, v = .str b)) (hinf : P.info? t = some ti) (hs : ti.size = xs.length) (h1 : allOne xs = true)
  (he : enc l[i] = p ++ (q ++ r)) (hp : p.length = off) (hq : q.length = xs.length) (hy : enc y = p ++ (xs ++ r)) (k : IntKind) : (XOp.stx t w off).run P [sliceOf enc w l, .int k (i : Int), v] = some (sliceOf enc w (l.set i y)) := by
 obtain ⟨a, b, e1, e2, e3⟩ := cut_at hw l hi
 obtain ⟨x0, l', rfl⟩ : ∃ x l', l = x :: l' := by cases l with | nil => simp at hi | cons x l' => exact ⟨x, l', rfl⟩
 have hset : ∃ z l'', (x0 :: l').set i y = z :: l'' ∧ l''.length = l'.length := by
  cases i with
  | zero => exact ⟨y, l', rfl, rfl⟩
  | succ i => exact ⟨x0, l'.set i y, rfl, by simp⟩
 obtain ⟨z, l'', e4, e5⟩ := hset
 have hst : evStore P (row0 (encL enc (x0 :: l'))) t (.ptr 0 (i * w + off)) v = some (.tup [], (row0 (encL enc (x0 :: l'))).set 0 (.cells (encL enc ((x0 :: l').set i y)))) := by
  have hg : (row0 (encL enc (x0 :: l'))).get 0 = some (.cells (encL enc (x0 :: l'))) := rfl
  have hsa : setAt (i * w + off) xs (encL enc (x0 :: l')) = some (encL enc ((x0 :: l').set i y)) := by
   have := setAt_app (a ++ p) xs q (r ++ b) hq
   rw [List.length_append, e2, hp] at this
   rw [e1, he, e3, hy]
   simpa [List.append_assoc] using this
  have hb : Nat.beq xs.length ti.size = true := by rw [hs]; exact Nat.beq_refl _
  rcases ho with rfl | ⟨k', n, rfl⟩ | ⟨b', rfl⟩
  ·simp only [evStore, hinf]
   have hc' : (AV.agg xs).cells = xs := hc
   simp only [hc', hb, h1, hg, hsa]
  ·simp only [evStore, hinf]
   simp only [hc, hb, h1, hg, hsa]
  ·simp only [evStore, hinf]
   simp only [hc, hb, h1, hg, hsa]
 show (match evStore P (row0 (encL enc (x0 :: l'))) t (.ptr 0 (Nat.add (Nat.mul i w) off)) v with
  | some r => match r.2.get 0 with
    | some (.cells cs') => some (AV.vsl (l'.length + 1) w cs')
    | _ => none
  | none => none) = _
 have e6 : Nat.add (Nat.mul i w) off = i * w + off := rfl
 rw [e6, hst]
 have hg2 : ∀ c : List AV, ((row0 (encL enc (x0 :: l'))).set 0 (.cells c)).get 0 = some (.cells c) := fun c => rfl
 simp only [hg2]
 rw [e4]
 show _ = some (AV.vsl (l''.length + 1) w (encL enc (z :: l'')))
 rw [e5]
theorem run_ldxN {d : TypeDesc} (ht : P.underlying t = some d) (ha : aggB d = true) (hinf : P.info? t = some ti) (hs : ti.size = w) (hw : ∀ a, (enc a).length = w) {l : List α} {i : Nat} (hi : i < l.length) (k : IntKind) : (XOp.ldx t w 0).run P [sliceOf enc w l, .int k (i : Int)] = some (.agg (enc l[i])) := by
 obtain ⟨a, b, e1, e2, _⟩ := cut_at hw l hi
 obtain ⟨x0, l', rfl⟩ : ∃ x l', l = x :: l' := by cases l with | nil => simp at hi | cons x l' => exact ⟨x, l', rfl⟩
 show evLoad P (row0 (encL enc (x0 :: l'))) t (.ptr 0 (i * w + 0)) = _
 unfold evLoad
 simp only [ht, ha, hinf]
 have hg : (row0 (encL enc (x0 :: l'))).get 0 = some (.cells (encL enc (x0 :: l'))) := rfl
 unfold cellsAt
 simp only [hg]
 have hd : dropA (i * w + 0) (encL enc (x0 :: l')) = enc (x0 :: l')[i] ++ b := by
  rw [dropA_eq, e1, Nat.add_zero, ← e2, List.drop_left]
 have hl : ti.size = (enc (x0 :: l')[i]).length := by rw [hs, hw]
 rw [hd, hl, takeEx_left]
theorem run_inb {l : List α} {i : Nat} (hi : i < l.length) (k : IntKind) : (XOp.inb).run P [sliceOf enc w l, .int k (i : Int)] = some (.int .i64 (i : Int)) := by
 cases l with
 | nil => simp at hi
 | cons x r =>
   show (match Sx.idx (i : Int) (r.length + 1) with | some n => some (AV.int .i64 (.ofNat n)) | none => none) = _
   have hb : Nat.blt i (r.length + 1) = true := by simpa [Nat.blt_eq] using hi
   have : Sx.idx (i : Int) (r.length + 1) = some i := by
    show (match Nat.blt i (r.length + 1) with | true => some i | false => none) = some i
    rw [hb]
   rw [this]; rfl
end
end Go.Sx
