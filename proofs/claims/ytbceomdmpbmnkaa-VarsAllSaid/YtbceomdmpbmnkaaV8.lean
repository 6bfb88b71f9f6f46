/-
  The plain law of VarsWhere: where cells stand, and what is in them at first.
-/
import Derived.Test.YtbceomdmpbmnkaaV4
import Derived.Test.YtbceomdmpbmnkaaFA
import Derived.KernelRfl
import Derived.Test.YtbceomdmpbmnkaaSyG
set_option maxRecDepth 100000
set_option linter.unusedVariables false
set_option linter.unusedSimpArgs false
namespace Go.Proofs.Ytbceomdmpbmnkaa.vars
open Go Go.Sx
theorem may_facts {v : GVar} (h : mayVar v = true) : nameOk v.name = true ∧ (cellsOf v.kind).length ≠ 0 ∧ 0 ≤ v.size ∧ v.size ≤ 8 ∧
  (isValue v.kind = false → v.size = 0) ∧ (isValue v.kind = true → mayVal v.first = true) := by
 unfold mayVar at h
 split at h
 ·cases h
 rename_i h1
 split at h
 ·cases h
 split at h
 ·cases h
 split at h
 ·cases h
 rename_i h4
 split at h
 ·cases h
 rename_i h5
 split at h
 ·cases h
 rename_i h6
 have hk : ∀ w k, ofKind w k = true → mayVal w = true := fun w k h => by
  unfold ofKind at h
  simp only [Bool.and_eq_true] at h; exact h.2
 refine ⟨by simpa using h1, fun h => h4 (by rw [h]; rfl), by omega, by omega, fun hv => ?_, fun hv => ?_⟩
 ·rw [if_pos hv] at h
  split at h
  ·assumption
  ·cases h
 ·rw [if_neg (by rw [hv]; exact fun h => by cases h)] at h
  split at h
  ·split at h
   ·exact hk _ _ h
   ·cases h
  ·split at h
   ·exact hk _ _ h
   ·cases h
theorem cells_value {k : Int} (h : isValue k = true) : cellsOf k = [k] := by
 unfold isValue at h
 simp only [Bool.and_eq_true, decide_eq_true_eq] at h
 unfold cellsOf
 rw [if_neg (by omega), if_neg (by omega), if_neg (by omega), if_neg (by omega), if_neg (by omega), if_neg (by omega), if_neg (by omega), if_pos]
 unfold isValue
 simp only [Bool.and_eq_true, decide_eq_true_eq]; exact h
theorem wid_first {v : GVar} (h : mayVar v = true) : wid v = ((firstOf v).length : Int) := by
 obtain ⟨_, h0, h1, h2, h3, h4⟩ := may_facts h
 have hc := cells_le v.kind
 unfold wid firstOf
 cases hv : isValue v.kind with
 | true =>
   rw [if_pos rfl, List.length_replicate, cells_value hv]
   unfold sizeOf1
   have e : (([v.kind].length : Nat) : Int) * max v.size 1 = max v.size 1 := by simp
   rw [e, wrap64 (x := max v.size 1) (by omega) (by omega)]
   omega
 | false =>
   rw [if_neg (fun h => by cases h), List.length_map, h3 hv]
   have e : ((cellsOf v.kind).length : Int) * max 0 1 = ((cellsOf v.kind).length : Int) := by
    rw [show max (0 : Int) 1 = 1 by rfl, Int.mul_one]
   rw [e, wrap64 (x := ((cellsOf v.kind).length : Int)) (by omega) (by omega)]
theorem sumW_tot : ∀ (l : List GVar) (n : Nat), l.all mayVar = true → n + 8 * l.length ≤ 1000000 → sumW l (n : Int) = ((n + (firstF l).length : Nat) : Int)
 | [], n, _, _ => by simp [sumW, firstF]
 | v :: r, n, h, hn => by
   simp only [List.all_cons, Bool.and_eq_true] at h
   have h1 := firstOf_le h.1
   simp only [List.length_cons] at hn
   have e : IntKind.i64.wrap ((n : Int) + wid v) = ((n + (firstOf v).length : Nat) : Int) := by
    rw [wid_first h.1, wrap64 (by omega) (by omega)]; omega
   simp only [sumW, e, firstF, List.length_append]
   rw [sumW_tot r _ h.2 (by omega)]
   congr 1; omega
theorem addrs_at : ∀ (l : List GVar) (n : Int) (i : Nat) (h : i < (addrsF l n).length), (addrsF l n)[i] = sumW (l.take i) n
 | [], n, i, h => by simp [addrsF] at h
 | v :: r, n, 0, h => rfl
 | v :: r, n, i + 1, h => by
   simp only [addrsF, List.getElem_cons_succ, List.take_succ_cons, sumW]
   exact addrs_at r _ i _
theorem width_law {v : GVar} (h : mayVar v = true) : (0 < v.size → v.size = ((firstOf v).length : Int)) ∧ (¬ 0 < v.size → ((cellsOf v.kind).length : Int) = ((firstOf v).length : Int)) := by
 obtain ⟨_, h0, h1, h2, h3, h4⟩ := may_facts h
 cases hv : isValue v.kind with
 | true =>
   have e1 : (firstOf v).length = sizeOf1 v := by unfold firstOf; rw [hv, if_pos rfl, List.length_replicate]
   rw [e1, cells_value hv]
   unfold sizeOf1
   constructor
   ·intro h; omega
   ·intro h; simp; omega
 | false =>
   have e1 : (firstOf v).length = (cellsOf v.kind).length := by unfold firstOf; rw [hv]; simp
   rw [e1]
   have := h3 hv
   exact ⟨fun h => by omega, fun _ => rfl⟩
theorem keys_nodup : ∀ (l : List GVar) (ks : List (List UInt8)), (l.map GVar.name).Nodup → (∀ v ∈ l, v.name ∉ ks) → (keysOf l ks).length = ks.length + l.length
 | [], ks, _, _ => by simp [keysOf]
 | v :: r, ks, hn, hk => by
   simp only [List.map_cons, List.nodup_cons] at hn
   have h1 : v.name ∉ ks := hk v (List.mem_cons_self ..)
   have e : addKey ks v.name = ks ++ [v.name] := by unfold addKey; rw [if_neg h1]
   simp only [keysOf, e]
   rw [keys_nodup r _ hn.2 fun u hu hm => by
    rcases List.mem_append.1 hm with hm | hm
    ·exact hk u (List.mem_cons_of_mem _ hu) hm
    ·simp at hm
     exact hn.1 (List.mem_map.2 ⟨u, hu, hm⟩)]
   simp only [List.length_append, List.length_cons, List.length_nil]; omega
theorem firstF_sub {a b : List GVar} (h : a.Sublist b) : (firstF a).length ≤ (firstF b).length := by
 induction h with
 | slnil => exact Nat.le_refl _
 | cons v _ ih => simp only [firstF, List.length_append]; omega
 | cons_cons v _ ih => simp only [firstF, List.length_append]; omega
theorem may_sub {a b : List GVar} (h : a.Sublist b) (hb : b.all mayVar = true) (hl : b.length ≤ 12) (hc : (firstF b).length ≤ 64) (hn : (b.map GVar.name).Nodup) : mayE a = 0 := by
 have hall : a.all mayVar = true := by
  rw [List.all_eq_true] at hb ⊢
  exact fun v hv => hb v (h.subset hv)
 have hlen := h.length_le
 have hs : sumW a 0 = ((0 + (firstF a).length : Nat) : Int) := sumW_tot a 0 hall (by omega)
 have hfa := firstF_sub h
 have hk := keys_nodup a [] (List.Nodup.sublist (h.map GVar.name) hn) (fun _ _ h => by cases h)
 unfold mayE
 have h1 : ¬ (a.all mayVar = false ∨ 12 < a.length) := fun h => by
  rcases h with h | h
  ·rw [hall] at h; cases h
  ·omega
 rw [if_neg h1, if_neg (by rw [hs]; omega), if_neg (by rw [hk]; simp)]
end Go.Proofs.Ytbceomdmpbmnkaa.vars
set_option maxRecDepth 100000
set_option linter.unusedVariables false
set_option linter.unusedSimpArgs false
namespace Go.Proofs.Ytbceomdmpbmnkaa.vars
open Go Go.Sx
def playV : List GVar :=
 [⟨[97], 1, 2, 0, ⟨2, 0, 0⟩, ⟨0, 0, 0⟩⟩, ⟨[98], 1, 1, 0, ⟨1, 0, 0⟩, ⟨0, 0, 0⟩⟩, ⟨[111], 2, 2, 0, ⟨2, 0, 0⟩, ⟨2, 7, 0⟩⟩, ⟨[113], 2, 1, 0, ⟨1, 0, 0⟩, ⟨1, 1, 0⟩⟩, ⟨[120], 3, 2, 0, ⟨2, 5, 0⟩, ⟨0, 0, 0⟩⟩, ⟨[121], 3, 3, 0, ⟨3, 0, 0⟩, ⟨0, 0, 0⟩⟩,
  ⟨[122], 3, 5, 0, ⟨5, 0, 0⟩, ⟨0, 0, 0⟩⟩, ⟨[119], 3, 4, 0, ⟨4, 0, 0⟩, ⟨0, 0, 0⟩⟩, ⟨[107], 3, 2, 4, ⟨2, 0, 0⟩, ⟨0, 0, 0⟩⟩, ⟨[116, 109], 3, 6, 0, ⟨0, 0, 0⟩, ⟨0, 0, 0⟩⟩, ⟨[99], 3, 9, 0, ⟨0, 0, 0⟩, ⟨0, 0, 0⟩⟩, ⟨[101], 3, 11, 0, ⟨0, 0, 0⟩, ⟨0, 0, 0⟩⟩]
theorem play_may {a : List GVar} (h : a.Sublist playV) : mayE a = 0 ∧ a.length ≤ 12 ∧ ∀ v ∈ a, Plain v := by
 refine ⟨may_sub h (by decide +kernel) (by decide +kernel) (by decide +kernel) (by decide +kernel), h.length_le, fun v hv => ?_⟩
 have := h.subset hv
 simp only [playV, List.mem_cons, List.not_mem_nil, or_false] at this
 rcases this with rfl | rfl | rfl | rfl | rfl | rfl | rfl | rfl | rfl | rfl | rfl | rfl <;> exact ⟨by decide, by decide, by decide⟩
end Go.Proofs.Ytbceomdmpbmnkaa.vars
set_option maxRecDepth 100000
set_option linter.unusedVariables false
set_option linter.unusedSimpArgs false
namespace Go.Proofs.Ytbceomdmpbmnkaa.vars
open Go Go.Sx
def c19 : VC := ⟨⟨[], []⟩, [], [], 0, false, []⟩
def t19 : VT :=
 (.lt (.bin .geq 3 false true) [64, J 1] 65 none
 (.ite 65
 (.lt (.bin .leq 3 false true) [64, J 5] 66 none
 (.ite 66
 (.done (J 1))
 (.lt (.bin .geq 3 false true) [64, J 6] 67 none
 (.ite 67
 (.lt (.bin .leq 3 false true) [64, J 8] 68 none
 (.ite 68
 (.done (J 4))
 (.lt (.bin .eql 3 false true) [64, J 9] 69 none
 (.ite 69
 (.done (J 3))
 (.lt (.bin .eql 3 false true) [64, J 10] 70 none
 (.ite 70
 (.done (J 3))
 (.lt (.bin .eql 3 false true) [64, J 11] 71 none
 (.ite 71
 (.done (J 2))
 (.lt (.bin .eql 3 false true) [64, J 12] 72 none
 (.ite 72
 (.done (J 2))
 (.done (J 0))))))))))))
 (.lt (.bin .eql 3 false true) [64, J 9] 68 none
 (.ite 68
 (.done (J 3))
 (.lt (.bin .eql 3 false true) [64, J 10] 69 none
 (.ite 69
 (.done (J 3))
 (.lt (.bin .eql 3 false true) [64, J 11] 70 none
 (.ite 70
 (.done (J 2))
 (.lt (.bin .eql 3 false true) [64, J 12] 71 none
 (.ite 71
 (.done (J 2))
 (.done (J 0))))))))))))))
 (.lt (.bin .geq 3 false true) [64, J 6] 66 none
 (.ite 66
 (.lt (.bin .leq 3 false true) [64, J 8] 67 none
 (.ite 67
 (.done (J 4))
 (.lt (.bin .eql 3 false true) [64, J 9] 68 none
 (.ite 68
 (.done (J 3))
 (.lt (.bin .eql 3 false true) [64, J 10] 69 none
 (.ite 69
 (.done (J 3))
 (.lt (.bin .eql 3 false true) [64, J 11] 70 none
 (.ite 70
 (.done (J 2))
 (.lt (.bin .eql 3 false true) [64, J 12] 71 none
 (.ite 71
 (.done (J 2))
 (.done (J 0))))))))))))
 (.lt (.bin .eql 3 false true) [64, J 9] 67 none
 (.ite 67
 (.done (J 3))
 (.lt (.bin .eql 3 false true) [64, J 10] 68 none
 (.ite 68
 (.done (J 3))
 (.lt (.bin .eql 3 false true) [64, J 11] 69 none
 (.ite 69
 (.done (J 2))
 (.lt (.bin .eql 3 false true) [64, J 12] 70 none
 (.ite 70
 (.done (J 2))
 (.done (J 0))))))))))))))
theorem cells_len (k : Int) : (((cellsOf k).length : Nat) : Int) = if 1 ≤ k ∧ k ≤ 5 then 1 else if 6 ≤ k ∧ k ≤ 8 then 4 else if k = 9 ∨ k = 10 then 3 else if k = 11 ∨ k = 12 then 2 else 0 := by
 unfold cellsOf isValue
 simp only [Bool.and_eq_true, decide_eq_true_eq]
 repeat' split
 all_goals first
  | rfl
  | (exfalso; omega)
theorem p19 (k : Int) : Pure Try.prog 19 [.int .i64 k] (.int .i64 ((cellsOf k).length : Int)) := by
 rw [cells_len]
 refine pure_shape (sh := [none]) (ls := [.int .i64 k]) (c := c19) (n := 300) (t := t19) mo ov rfl rfl rfl (fun Y _ => known0 _) rfl (by kernel_rfl) fun Y hf hg => ?_
 unfold t19
 repeat' (first
  | refine VOK_lt (run_eql ..) rfl ?_
  | refine VOK_lt (run_geq ..) rfl ?_
  | refine VOK_lt (run_leq ..) rfl ?_
  | refine VOK_ite rfl (fun h => ?_) (fun h => ?_)
  | refine VOK_done ?_)
 all_goals (simp only [decide_eq_true_eq, decide_eq_false_iff_not] at *)
 all_goals
  (show AV.int .i64 _ = AV.int .i64 _
   congr 1
   repeat' split
   all_goals first
    | rfl
    | (exfalso; omega))
def c29 : VC := ⟨⟨[], []⟩, [], [], 0, false, []⟩
def t29 : VT :=
 (.lt (.bin .geq 3 false true) [64, J 6] 65 none
 (.ite 65
 (.lt (.bin .leq 3 false true) [64, J 8] 66 none
 (.ite 66
 (.done (.vsl 4 1 [J 1, J 4, J 1, J 4]))
 (.lt (.bin .eql 3 false true) [64, J 9] 67 none
 (.ite 67
 (.done (.vsl 3 1 [J 1, J 2, J 1]))
 (.lt (.bin .eql 3 false true) [64, J 10] 68 none
 (.ite 68
 (.done (.vsl 3 1 [J 1, J 2, J 1]))
 (.done (.vsl 2 1 [J 1, J 1]))))))))
 (.lt (.bin .eql 3 false true) [64, J 9] 66 none
 (.ite 66
 (.done (.vsl 3 1 [J 1, J 2, J 1]))
 (.lt (.bin .eql 3 false true) [64, J 10] 67 none
 (.ite 67
 (.done (.vsl 3 1 [J 1, J 2, J 1]))
 (.done (.vsl 2 1 [J 1, J 1]))))))))
def blockR (k : Int) : List Int := if 6 ≤ k ∧ k ≤ 8 then [1, 4, 1, 4] else if k = 9 ∨ k = 10 then [1, 2, 1] else [1, 1]
theorem blockR_eq {k : Int} (h : 1 < (cellsOf k).length) : blockR k = cellsOf k := by
 unfold cellsOf isValue at h ⊢
 unfold blockR
 simp only [Bool.and_eq_true, decide_eq_true_eq] at h ⊢
 repeat' split
 all_goals first
  | rfl
  | (exfalso; omega)
  | (exfalso; simp_all)
theorem p29 (k : Int) : Pure Try.prog 29 [.int .i64 k] (ints (blockR k)) := by
 refine pure_shape (sh := [none]) (ls := [.int .i64 k]) (c := c29) (n := 300) (t := t29) mo ov rfl rfl (okC_noRef (okInts _)) (fun Y _ => known0 _) rfl (by kernel_rfl) fun Y hf hg => ?_
 unfold t29
 repeat' (first
  | refine VOK_lt (run_eql ..) rfl ?_
  | refine VOK_lt (run_geq ..) rfl ?_
  | refine VOK_lt (run_leq ..) rfl ?_
  | refine VOK_ite rfl (fun h => ?_) (fun h => ?_)
  | refine VOK_done ?_)
 all_goals (simp only [decide_eq_true_eq, decide_eq_false_iff_not] at *)
 all_goals (unfold blockR)
 all_goals
  (repeat' split
   all_goals first
    | rfl
    | (exfalso; omega))
def c22 : VC := ⟨⟨[], []⟩, [(19, [none])], [], 0, false, []⟩
def t22 : VT :=
 (.call 19 [64] 65 [none]
 (.lt (.bin .neq 3 false true) [65, J 1] 66 none
 (.ite 66
 (.done (.agg [J 0, J 0, .flt .f64 0]))
 (.done (.agg [64, J 0, .flt .f64 0])))))
theorem value_one (k : Int) : isValue k = true ↔ ((cellsOf k).length : Int) = 1 := by
 rw [cells_len]
 unfold isValue
 simp only [Bool.and_eq_true, decide_eq_true_eq]
 constructor
 ·intro h; rw [if_pos h]
 ·intro h
  by_cases h1 : 1 ≤ k ∧ k ≤ 5
  ·exact h1
  ·rw [if_neg h1] at h
   exfalso
   repeat' (split at h)
   all_goals omega
theorem p22 (k : Int) : Pure Try.prog 22 [.int .i64 k] (.agg (encVal (zeroOf k))) := by
 refine pure_shape (sh := [none]) (ls := [.int .i64 k]) (c := c22) (n := 300) (t := t22) mo ov rfl rfl rfl (fun Y _ => known0 _) rfl (by kernel_rfl) fun Y hf hg => ?_
 unfold t22
 refine VOK_call (p19 k) rfl rfl (VOK_lt (run_neq ..) rfl (VOK_ite rfl (fun h => VOK_done ?_) (fun h => VOK_done ?_)))
 ·have h' : isValue k = false := by
    cases hv : isValue k with
    | false => rfl
    | true => have := (value_one k).1 hv; rw [this] at h; simp at h
  show AV.agg _ = _
  unfold zeroOf; rw [h']; rfl
 ·have h' : isValue k = true := (value_one k).2 (by simpa using h)
  show AV.agg _ = _
  unfold zeroOf; rw [h']; rfl
def c28 : VC := ⟨⟨[], []⟩, [(19, [none])], [], 0, false, []⟩
def t28 : VT :=
 (.lt (.bin .gtr 3 false true) [67, J 0] 74 none
 (.ite 74
 (.done (67))
 (.call 19 [66] 75 [none]
 (.done (75)))))
theorem p28 (v : GVar) (hv : mayVar v = true) : Pure Try.prog 28 [.agg (encVar v)] (.int .i64 (wid v)) := by
 obtain ⟨w1, w2⟩ := width_law hv
 have hw := wid_first hv
 refine pure_shape (sh := [some 10]) (ls := encVar v) (c := c28) (n := 300) (t := t28) mo ov rfl rfl rfl (fun Y _ => known0 _) rfl (by kernel_rfl) fun Y hf hg => ?_
 unfold t28
 refine VOK_lt (run_gtr ..) rfl (VOK_ite rfl (fun h => VOK_done ?_) (fun h => VOK_call (p19 v.kind) rfl rfl (VOK_done ?_)))
 ·have h' : 0 < v.size := by simpa using h
  show AV.int .i64 v.size = _
  rw [hw, w1 h']
 ·have h' : ¬ 0 < v.size := by simpa using h
  show AV.int .i64 _ = _
  rw [hw, w2 h']
end Go.Proofs.Ytbceomdmpbmnkaa.vars
set_option maxRecDepth 100000
set_option linter.unusedVariables false
set_option linter.unusedSimpArgs false
namespace Go.Proofs.Ytbceomdmpbmnkaa.vars
open Go Go.Sx
def c38 : VC := ⟨⟨[], []⟩, [(0, [none])], [], 0, false, []⟩
def t38 : VT :=
 (.lt (.bin .neq 23 false false) [64, 64] 65 none
 (.ite 65
 (.done (.int .u64 9221120237041090561))
 (.lt (.ext 48) [64] 66 none
 (.done (66)))))
def bitsF (n : Nat) : Int := if nanB n = true then 9221120237041090561 else (n : Int)
theorem bitsF_0 (n : Nat) : (bitsF n = 0) ↔ n = 0 := by
 unfold bitsF
 split
 ·rename_i h
  have := nan_pos h
  exact ⟨fun h => by omega, fun h => absurd h this⟩
 ·omega
theorem ext48 (n : Nat) : (XOp.ext 48).run Try.prog [.flt .f64 n] = some (.int .u64 (n : Int)) := by kernel_rfl
theorem p38 (n : Nat) : Pure Try.prog 38 [.flt .f64 n] (.int .u64 (bitsF n)) := by
 refine pure_shape (sh := [none]) (ls := [.flt .f64 n]) (c := c38) (n := 300) (t := t38) mo ov rfl rfl rfl (fun Y _ => known0 _) rfl (by kernel_rfl) fun Y hf hg => ?_
 unfold t38
 refine VOK_lt (run_fself ..) rfl (VOK_ite rfl (fun h => VOK_done ?_) (fun h => VOK_lt (ext48 n) rfl (VOK_done ?_)))
 ·show AV.int _ _ = _
  unfold bitsF; rw [h]; rfl
 ·show AV.int _ _ = _
  unfold bitsF; rw [h]; rfl
def c46 : VC := ⟨⟨[], []⟩, [(38, [none])], [], 0, false, []⟩
def t46 : VT :=
 (.lt (.bin .eql 3 false true) [64, J 0] 67 none
 (.ite 67
 (.lt (.bin .eql 2 false true) [65, J 0] 68 none
 (.ite 68
 (.call 38 [66] 69 [none]
 (.lt (.bin .eql 65 false true) [69, .int .u64 0] 70 none
 (.done (70))))
 (.done (.bool false))))
 (.done (.bool false))))
theorem p46 (v : GVal) : Pure Try.prog 46 [.agg (encVal v)] (.bool (nought v)) := by
 refine pure_shape (sh := [some 3]) (ls := encVal v) (c := c46) (n := 300) (t := t46) mo ov rfl rfl rfl (fun Y _ => known0 _) rfl (by kernel_rfl) fun Y hf hg => ?_
 unfold t46
 refine VOK_lt (run_eql ..) rfl (VOK_ite rfl (fun h1 => VOK_lt (run_eql ..) rfl (VOK_ite rfl (fun h2 => VOK_call (p38 v.f) rfl rfl (VOK_lt (run_eql ..) rfl (VOK_done ?_))) (fun h2 => VOK_done ?_))) (fun h1 => VOK_done ?_))
 all_goals (show AV.bool _ = _; unfold nought; simp only [*]; try rfl)
 ·have : decide (bitsF v.f = 0) = decide (v.f = 0) := by simp only [bitsF_0]
  rw [this]; rfl
def c49 : VC := ⟨⟨[], []⟩, [(0, [none])], [], 0, false, []⟩
def t49 : VT :=
 (.ite 64
 (.done (J 1))
 (.done (J 0)))
def truthF (b : Bool) : Int := if b = true then 1 else 0
theorem p49 (b : Bool) : Pure Try.prog 49 [.bool b] (.int .i64 (truthF b)) := by
 refine pure_shape (sh := [none]) (ls := [.bool b]) (c := c49) (n := 300) (t := t49) mo ov rfl rfl rfl (fun Y _ => known0 _) rfl (by kernel_rfl) fun Y hf hg => ?_
 unfold t49
 refine VOK_ite rfl (fun h => VOK_done ?_) (fun h => VOK_done ?_)
 all_goals (show AV.int _ _ = _; unfold truthF; rw [h]; rfl)
theorem remI {t : TypeId} {cx cy : Bool} (x c : Int) (hc : c ≠ 0) : (XOp.bin .rem t cx cy).run Try.prog [.int .i64 x, .int .i64 c] = some (.int .i64 (x.tmod c)) := rem_run (P := Try.prog) (k := .i64) (x := x) (c := c) hc rfl t cx cy
def wrapR (n x : Int) : Int := if x.tmod n < 0 then (if n / 2 ≤ x.tmod n + n then x.tmod n + n - n else x.tmod n + n) else (if n / 2 ≤ x.tmod n then x.tmod n - n else x.tmod n)
def c47k1 : VC := ⟨⟨[], []⟩, [(49, [none])], [], 0, false, []⟩
def t47k1 : VT :=
 (.lt (.bin .neq 2 false true) [64, J 0] 65 none
 (.call 49 [65] 66 [none]
 (.done (66))))
def c47k2 : VC := ⟨⟨[], []⟩, [(49, [none])], [], 0, false, []⟩
def t47k2 : VT :=
 (.lt (.bin .rem 2 false false) [64, J 65536] 65 none
 (.lt (.bin .lss 2 false true) [65, J 0] 66 none
 (.ite 66
 (.lt (.bin .add 2 false false) [65, J 65536] 67 none
 (.lt (.bin .geq 2 false false) [67, J 32768] 68 none
 (.ite 68
 (.lt (.bin .sub 2 false false) [67, J 65536] 69 none
 (.done (69)))
 (.done (67)))))
 (.lt (.bin .geq 2 false false) [65, J 32768] 67 none
 (.ite 67
 (.lt (.bin .sub 2 false false) [65, J 65536] 68 none
 (.done (68)))
 (.done (65)))))))
def c47k3 : VC := ⟨⟨[], []⟩, [(49, [none])], [], 0, false, []⟩
def t47k3 : VT :=
 (.lt (.bin .rem 2 false false) [64, J 4294967296] 65 none
 (.lt (.bin .lss 2 false true) [65, J 0] 66 none
 (.ite 66
 (.lt (.bin .add 2 false false) [65, J 4294967296] 67 none
 (.lt (.bin .geq 2 false false) [67, J 2147483648] 68 none
 (.ite 68
 (.lt (.bin .sub 2 false false) [67, J 4294967296] 69 none
 (.done (69)))
 (.done (67)))))
 (.lt (.bin .geq 2 false false) [65, J 2147483648] 67 none
 (.ite 67
 (.lt (.bin .sub 2 false false) [65, J 4294967296] 68 none
 (.done (68)))
 (.done (65)))))))
def c47k4 : VC := ⟨⟨[], []⟩, [(49, [none])], [], 0, false, []⟩
def t47k4 : VT :=
 (.done (64))
theorem tmod_lt (x n : Int) (hn : 0 < n) : - n < x.tmod n ∧ x.tmod n < n := by
 refine ⟨?_, Int.tmod_lt_of_pos x hn⟩
 have := Int.tmod_lt_of_pos (-x) hn
 rw [Int.neg_tmod] at this
 omega
theorem p47k1 (x : Int) : Pure Try.prog 39 [.int .i64 1, .int .i64 x] (.int .i64 (truthF (!decide (x = 0)))) := by
 refine pure_pat (args' := [.int .i64 1, .sym 64]) (ls := [.int .i64 x]) (c := c47k1) (n := 300) (t := t47k1) mo ov rfl rfl rfl rfl (fun Y _ => rfl) (fun Y _ => known0 _) rfl (by kernel_rfl) fun Y hf hg => ?_
 unfold t47k1
 exact VOK_lt (run_neq ..) rfl (VOK_call (p49 _) rfl rfl (VOK_done rfl))
theorem p47k4 (x : Int) : Pure Try.prog 39 [.int .i64 4, .int .i64 x] (.int .i64 x) := by
 refine pure_pat (args' := [.int .i64 4, .sym 64]) (ls := [.int .i64 x]) (c := c47k4) (n := 300) (t := t47k4) mo ov rfl rfl rfl rfl (fun Y _ => rfl) (fun Y _ => known0 _) rfl (by kernel_rfl) fun Y hf hg => ?_
 unfold t47k4
 exact VOK_done rfl
theorem p47k2 (x : Int) : Pure Try.prog 39 [.int .i64 2, .int .i64 x] (.int .i64 (wrapR 65536 x)) := by
 have hb := tmod_lt x 65536 (by omega)
 refine pure_pat (args' := [.int .i64 2, .sym 64]) (ls := [.int .i64 x]) (c := c47k2) (n := 300) (t := t47k2) mo ov rfl rfl rfl rfl (fun Y _ => rfl) (fun Y _ => known0 _) rfl (by kernel_rfl) fun Y hf hg => ?_
 unfold t47k2
 have hr := remI (t := 2) (cx := false) (cy := false) x 65536 (by omega)
 unfold wrapR
 generalize x.tmod 65536 = r at *
 refine VOK_lt hr rfl ?_
 repeat' (first
  | refine VOK_lt (run_lss ..) rfl ?_
  | refine VOK_lt (run_geq ..) rfl ?_
  | refine VOK_lt (run_add ..) rfl ?_
  | refine VOK_lt (run_sub ..) rfl ?_
  | refine VOK_ite rfl (fun h => ?_) (fun h => ?_)
  | refine VOK_done ?_)
 all_goals (simp only [decide_eq_true_eq, decide_eq_false_iff_not] at *)
 all_goals (try rw [wrap64 (x := r + 65536) (by omega) (by omega)] at *)
 all_goals
  (show AV.int .i64 _ = AV.int .i64 _
   congr 1
   repeat' split
   all_goals first
    | (exfalso; omega)
    | rfl
    | (rw [wrap64 (x := r + 65536 - 65536) (by omega) (by omega)])
    | (rw [wrap64 (x := r - 65536) (by omega) (by omega)])
    | omega)
theorem p47k3 (x : Int) : Pure Try.prog 39 [.int .i64 3, .int .i64 x] (.int .i64 (wrapR 4294967296 x)) := by
 have hb := tmod_lt x 4294967296 (by omega)
 refine pure_pat (args' := [.int .i64 3, .sym 64]) (ls := [.int .i64 x]) (c := c47k3) (n := 300) (t := t47k3) mo ov rfl rfl rfl rfl (fun Y _ => rfl) (fun Y _ => known0 _) rfl (by kernel_rfl) fun Y hf hg => ?_
 unfold t47k3
 have hr := remI (t := 2) (cx := false) (cy := false) x 4294967296 (by omega)
 unfold wrapR
 generalize x.tmod 4294967296 = r at *
 refine VOK_lt hr rfl ?_
 repeat' (first
  | refine VOK_lt (run_lss ..) rfl ?_
  | refine VOK_lt (run_geq ..) rfl ?_
  | refine VOK_lt (run_add ..) rfl ?_
  | refine VOK_lt (run_sub ..) rfl ?_
  | refine VOK_ite rfl (fun h => ?_) (fun h => ?_)
  | refine VOK_done ?_)
 all_goals (simp only [decide_eq_true_eq, decide_eq_false_iff_not] at *)
 all_goals (try rw [wrap64 (x := r + 4294967296) (by omega) (by omega)] at *)
 all_goals
  (show AV.int .i64 _ = AV.int .i64 _
   congr 1
   repeat' split
   all_goals first
    | (exfalso; omega)
    | rfl
    | (rw [wrap64 (x := r + 4294967296 - 4294967296) (by omega) (by omega)])
    | (rw [wrap64 (x := r - 4294967296) (by omega) (by omega)])
    | omega)
end Go.Proofs.Ytbceomdmpbmnkaa.vars
