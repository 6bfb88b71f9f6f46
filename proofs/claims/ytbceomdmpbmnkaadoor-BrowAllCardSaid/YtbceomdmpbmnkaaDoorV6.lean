/-
  What the functions of vars come to, each by its tree: Addrs, First.
-/
import Derived.Test.YtbceomdmpbmnkaaDoorV1
import Derived.KernelRfl
set_option maxRecDepth 100000
set_option linter.unusedVariables false
set_option linter.unusedSimpArgs false
namespace Go.Proofs.YtbceomdmpbmnkaaDoor.vars
open Go Go.Sx
def c19 : VC := ⟨⟨[], []⟩, [(29, [none]), (30, [none])], [(0, [⟨[(11, .slx 0 0 0), (3, .slx 1 0 0), (2, .slx 0 1 2), (9, .sym 64), (10, .sym 67)], [], 1, 3, [⟨0, 1, 2, 2, none⟩], []⟩])]⟩
def t19 : VT :=
 (.call 29 [.sym 64] 65 [none]
 (.lt (.bin .neq 43 false true) [.sym 65, .int .i64 0] 66 none
 (.ite 66
  (.done (.tup [.nsl, .int .i64 0]))
  (.lt (.len 22) [.sym 64] 67 none
  (.loop 68 0 [.int .i64 0, .int .i64 0, .nsl]
   (.cons 3
   (.lt (.bin .lss 3 false false) [.sym 68, .sym 67] 71 none
   (.ite 71
    (.lt (.iaddr 22) [.sym 64, .sym 68] 72 none
    (.lt (.load 39) [.sym 72] 73 (some 10)
    (.lt (.app 1 8) [.sym 70, .agg [.sym 69]] 83 none
    (.call 30 [.agg [.sym 73, .sym 74, .sym 75, .sym 76, .sym 77, .sym 78, .sym 79, .sym 80, .sym 81, .sym 82]] 84 [none]
    (.lt (.bin .add 3 false false) [.sym 69, .sym 84] 85 none
    (.lt (.bin .add 3 false true) [.sym 68, .int .i64 1] 86 none
    (.again 0 0 [.sym 86, .sym 85, .sym 83])))))))
    (.done (.tup [.sym 70, .sym 69]))))
   .nil))))))
/-- first cells, from a number on -/
def addrsF : List GVar → Int → List Int
  | [], _ => []
  | v :: r, n => n :: addrsF r (IntKind.i64.wrap (n + wid v))
theorem addrsF_snoc (v : GVar) : ∀ (l : List GVar) (n : Int), addrsF (l ++ [v]) n = addrsF l n ++ [sumW l n]
  | [], _ => rfl
  | a :: r, n => by simp only [List.cons_append, addrsF, sumW, addrsF_snoc v r]
theorem addrsF_len : ∀ (l : List GVar) (n : Int), (addrsF l n).length = l.length
  | [], _ => rfl
  | a :: r, n => by simp [addrsF, addrsF_len r]
theorem app1_8 (l : List Int) (n : Int) (hl : l.length ≤ 100000) : (XOp.app 1 8).run Tryd.prog [ints l, .agg [.int .i64 n]] = some (ints (l ++ [n])) := run_app_sl (enc := encI) lenI (by decide) (by decide) l n (by omega)
theorem app3_24 (l : List GVal) (v : GVal) (hl : l.length ≤ 100000) : (XOp.app 3 24).run Tryd.prog [vals l, .agg (encVal v)] = some (vals (l ++ [v])) := run_app_sl (enc := encVal) lenVal (by decide) (by decide) l v (by omega)
theorem apps3_24 (l l' : List GVal) (hl : l.length + l'.length ≤ 100000) : (XOp.app 3 24).run Tryd.prog [vals l, vals l'] = some (vals (l ++ l')) := run_app_sls (enc := encVal) lenVal (by decide) (by decide) l l' (by omega)
theorem p19 (l : List GVar) (hl : l.length ≤ 1000) (hz : ∀ v ∈ l, Plain v) : Pure Tryd.prog 19 [vrs l] (if mayE l = 0 then .tup [ints (addrsF l 0), .int .i64 (sumW l 0)] else .tup [.nsl, .int .i64 0]) := by
  refine pure_shape (sh := [none]) (ls := [vrs l]) (c := c19) (n := 300) (t := t19) mo ov rfl (okC1 (okVrs l)) (by split <;> simp [noRef, noRefL, okC_noRef (okInts _)]) (fun Y _ => known0 _) rfl (by kernel_rfl) fun Y hf hg => ?_
  unfold t19
  refine VOK_call (p29 l hl hz) rfl rfl (VOK_lt (run_neq ..) rfl (VOK_ite rfl (fun h => VOK_done ?_) (fun h => VOK_lt (len22 l) rfl ?_)))
  · have h' : ¬ mayE l = 0 := by simpa using h
    rw [if_neg h']; rfl
  have h' : mayE l = 0 := by simpa using h
  rw [if_pos h']
  refine VOK_loop (ι := Nat) (fun i => [.int .i64 i, .int .i64 (sumW (l.take i) 0), ints (addrsF (l.take i) 0)]) (fun i => i ≤ l.length) (fun i => l.length - i) 0 (Nat.zero_le _) rfl
    (fun i _ => by simp only [okL, okC, okInts]) (fun i j _ _ h => ?_) (fun i hi => ?_)
  · simp at h; have h : i = j := by omega
    rw [h]
  refine VOK_lt (run_lss ..) rfl (VOK_ite rfl (fun hlt => ?_) (fun hlt => VOK_done ?_))
  · have hlt : i < l.length := by simp only [decide_eq_true_eq] at hlt; omega
    refine VOK_lt (ia22 hlt) (encL_ok okVar _) (VOK_ltN (ld39 hlt) rfl rfl (VOK_lt (app1_8 _ _ (by rw [addrsF_len, List.length_take]; omega)) (okInts _) (VOK_call (p30 l[i]) rfl rfl (VOK_lt (run_add ..) rfl (VOK_lt (run_add ..) rfl (VOK_again rfl ⟨i + 1, hlt, ?_, by omega⟩))))))
    rw [take_snoc l hlt, sumW_snoc, addrsF_snoc, ← wrapS hlt hl]; rfl
  · have he : i = l.length := by simp only [decide_eq_false_iff_not] at hlt; omega
    subst he
    show AV.tup [ints (addrsF (l.take l.length) 0), .int .i64 (sumW (l.take l.length) 0)] = _
    rw [List.take_length]

/-! ### Repeat, of one value, some times -/
def reps : Nat → List AV
  | 0 => []
  | k + 1 => .sym 64 :: .sym 65 :: .sym 66 :: reps k
end Go.Proofs.YtbceomdmpbmnkaaDoor.vars
/-
  What the functions of vars come to, each by its tree: First.
-/
set_option maxRecDepth 100000
set_option linter.unusedVariables false
set_option linter.unusedSimpArgs false
namespace Go.Proofs.YtbceomdmpbmnkaaDoor.vars
open Go Go.Sx
def sizeOf1 (v : GVar) : Nat := (max v.size 1).toNat
def firstOf (v : GVar) : List GVal := if isValue v.kind = true then List.replicate (sizeOf1 v) v.first else (cellsOf v.kind).map zeroOf
def firstF : List GVar → List GVal
  | [] => []
  | v :: r => firstOf v ++ firstF r
theorem firstF_snoc (v : GVar) : ∀ l : List GVar, firstF (l ++ [v]) = firstF l ++ firstOf v
  | [] => by simp [firstF]
  | a :: r => by simp only [List.cons_append, firstF, firstF_snoc v r, List.append_assoc]
theorem cells_le (k : Int) : (cellsOf k).length ≤ 4 := by
  unfold cellsOf
  repeat' split
  all_goals simp
theorem size_le {v : GVar} (h : mayVar v = true) : v.size ≤ 8 ∧ 0 ≤ v.size := by
  unfold mayVar at h
  repeat' (split at h <;> first | (cases h; done) | skip)
  all_goals omega
theorem firstOf_le {v : GVar} (h : mayVar v = true) : (firstOf v).length ≤ 8 := by
  obtain ⟨h1, h2⟩ := size_le h
  unfold firstOf
  split
  · rw [List.length_replicate]; unfold sizeOf1; omega
  · rw [List.length_map]; have := cells_le v.kind; omega
theorem firstF_le : ∀ l : List GVar, l.all mayVar = true → (firstF l).length ≤ 8 * l.length
  | [], _ => by simp [firstF]
  | v :: r, h => by
    simp only [List.all_cons, Bool.and_eq_true] at h
    have h1 := firstOf_le h.1
    have h2 := firstF_le r h.2
    simp only [firstF, List.length_append, List.length_cons]; omega
theorem may_all {l : List GVar} (h : mayE l = 0) : l.all mayVar = true ∧ l.length ≤ 12 ∧ sumW l 0 ≤ 64 ∧ (keysOf l []).length ≥ l.length := by
  unfold mayE at h
  split at h
  · cases h
  rename_i h1
  split at h
  · cases h
  rename_i h2
  split at h
  · cases h
  rename_i h3
  simp only [not_or, Bool.not_eq_false] at h1
  exact ⟨h1.1, by omega, by omega, by omega⟩
theorem all_take {l : List GVar} (h : l.all mayVar = true) (i : Nat) : (l.take i).all mayVar = true := by
  rw [List.all_eq_true] at h ⊢
  exact fun v hv => h v (List.mem_of_mem_take hv)
theorem ia49 {l : List Int} {i : Nat} (h : i < l.length) : (XOp.iaddr 49).run Tryd.prog [ints l, .int .i64 (i : Int)] = some (.vptr (encL encI (l.drop i))) :=
  run_iaddr_sl (ti := (Tryd.prog.info? 3).get!) Tryd.underlying49 (by kernel_rfl) (by kernel_rfl) lenI h .i64
theorem ld3i {l : List Int} {i : Nat} (h : i < l.length) : (XOp.load 3).run Tryd.prog [.vptr (encL encI (l.drop i))] = some (.int .i64 l[i]) := by
  rw [List.drop_eq_getElem_cons h]
  exact run_load_one Tryd.underlying3 rfl _ _
end Go.Proofs.YtbceomdmpbmnkaaDoor.vars
/-
  The plain law of VarsWhere: where cells stand, and what is in them at first.
-/
set_option maxRecDepth 100000
set_option linter.unusedVariables false
set_option linter.unusedSimpArgs false
namespace Go.Proofs.YtbceomdmpbmnkaaDoor.vars
open Go Go.Sx

/-! ### of any variables that may be -/
theorem may_facts {v : GVar} (h : mayVar v = true) : nameOk v.name = true ∧ (cellsOf v.kind).length ≠ 0 ∧ 0 ≤ v.size ∧ v.size ≤ 8 ∧
    (isValue v.kind = false → v.size = 0) ∧ (isValue v.kind = true → mayVal v.first = true) := by
  unfold mayVar at h
  split at h
  · cases h
  rename_i h1
  split at h
  · cases h
  split at h
  · cases h
  split at h
  · cases h
  rename_i h4
  split at h
  · cases h
  rename_i h5
  split at h
  · cases h
  rename_i h6
  have hk : ∀ w k, ofKind w k = true → mayVal w = true := fun w k h => by
    unfold ofKind at h
    simp only [Bool.and_eq_true] at h; exact h.2
  refine ⟨by simpa using h1, fun h => h4 (by rw [h]; rfl), by omega, by omega, fun hv => ?_, fun hv => ?_⟩
  · rw [if_pos hv] at h
    split at h
    · assumption
    · cases h
  · rw [if_neg (by rw [hv]; exact fun h => by cases h)] at h
    split at h
    · split at h
      · exact hk _ _ h
      · cases h
    · split at h
      · exact hk _ _ h
      · cases h
theorem cells_value {k : Int} (h : isValue k = true) : cellsOf k = [k] := by
  unfold isValue at h
  simp only [Bool.and_eq_true, decide_eq_true_eq] at h
  unfold cellsOf
  rw [if_neg (by omega), if_neg (by omega), if_neg (by omega), if_neg (by omega), if_neg (by omega), if_neg (by omega), if_neg (by omega), if_pos]
  unfold isValue
  simp only [Bool.and_eq_true, decide_eq_true_eq]; exact h
theorem cells_block {k : Int} (h : isValue k = false) (h0 : (cellsOf k).length ≠ 0) : 2 ≤ (cellsOf k).length ∧ ∀ c ∈ cellsOf k, c = 1 ∨ c = 2 ∨ c = 4 := by
  unfold cellsOf at h0 ⊢
  repeat' split
  all_goals first
    | (simp; done)
    | (rename_i hk; rw [h] at hk; cases hk)
    | (exfalso; simp_all)
theorem wid_first {v : GVar} (h : mayVar v = true) : wid v = ((firstOf v).length : Int) := by
  obtain ⟨_, h0, h1, h2, h3, h4⟩ := may_facts h
  have hc := cells_le v.kind
  unfold wid firstOf
  cases hv : isValue v.kind with
  | true =>
    rw [if_pos rfl, List.length_replicate, cells_value hv]
    unfold sizeOf1
    have e : (([v.kind].length : Nat) : Int) * max v.size 1 = max v.size 1 := by simp
    rw [e, wrap64 (x := max v.size 1) (by omega) (by omega)]
    omega
  | false =>
    rw [if_neg (fun h => by cases h), List.length_map, h3 hv]
    have e : ((cellsOf v.kind).length : Int) * max 0 1 = ((cellsOf v.kind).length : Int) := by
      rw [show max (0 : Int) 1 = 1 by rfl, Int.mul_one]
    rw [e, wrap64 (x := ((cellsOf v.kind).length : Int)) (by omega) (by omega)]
theorem sumW_tot : ∀ (l : List GVar) (n : Nat), l.all mayVar = true → n + 8 * l.length ≤ 1000000 → sumW l (n : Int) = ((n + (firstF l).length : Nat) : Int)
  | [], n, _, _ => by simp [sumW, firstF]
  | v :: r, n, h, hn => by
    simp only [List.all_cons, Bool.and_eq_true] at h
    have h1 := firstOf_le h.1
    simp only [List.length_cons] at hn
    have e : IntKind.i64.wrap ((n : Int) + wid v) = ((n + (firstOf v).length : Nat) : Int) := by
      rw [wid_first h.1, wrap64 (by omega) (by omega)]; omega
    simp only [sumW, e, firstF, List.length_append]
    rw [sumW_tot r _ h.2 (by omega)]
    congr 1; omega
theorem addrs_at : ∀ (l : List GVar) (n : Int) (i : Nat) (h : i < (addrsF l n).length), (addrsF l n)[i] = sumW (l.take i) n
  | [], n, i, h => by simp [addrsF] at h
  | v :: r, n, 0, h => rfl
  | v :: r, n, i + 1, h => by
    simp only [addrsF, List.getElem_cons_succ, List.take_succ_cons, sumW]
    exact addrs_at r _ i _
theorem firstF_split (l : List GVar) {i : Nat} (h : i < l.length) : firstF l = firstF (l.take i) ++ (firstOf l[i] ++ firstF (l.drop (i + 1))) := by
  have app : ∀ a b : List GVar, firstF (a ++ b) = firstF a ++ firstF b := fun a b => by
    induction a with
    | nil => rfl
    | cons x r ih => simp only [List.cons_append, firstF, ih, List.append_assoc]
  conv => lhs; rw [← List.take_append_drop i l, app, List.drop_eq_getElem_cons h]
  rfl
theorem first_at (l : List GVar) {i k : Nat} (h : i < l.length) (hk : k < (firstOf l[i]).length) : ∃ h' : (firstF (l.take i)).length + k < (firstF l).length, (firstF l)[(firstF (l.take i)).length + k] = (firstOf l[i])[k] := by
  have e := firstF_split l h
  have hl : (firstF (l.take i)).length + k < (firstF l).length := by rw [e]; simp only [List.length_append]; omega
  refine ⟨hl, ?_⟩
  have : (firstF l)[(firstF (l.take i)).length + k]? = some (firstOf l[i])[k] := by
    rw [e, List.getElem?_append_right (by omega), Nat.add_sub_cancel_left, List.getElem?_append_left hk, List.getElem?_eq_getElem hk]
  rw [List.getElem?_eq_getElem hl] at this
  exact Option.some.inj this
/-- how wide it is, as the law says -/
theorem width_law {v : GVar} (h : mayVar v = true) : (0 < v.size → v.size = ((firstOf v).length : Int)) ∧ (¬ 0 < v.size → ((cellsOf v.kind).length : Int) = ((firstOf v).length : Int)) := by
  obtain ⟨_, h0, h1, h2, h3, h4⟩ := may_facts h
  cases hv : isValue v.kind with
  | true =>
    have e1 : (firstOf v).length = sizeOf1 v := by unfold firstOf; rw [hv, if_pos rfl, List.length_replicate]
    rw [e1, cells_value hv]
    unfold sizeOf1
    constructor
    · intro h; omega
    · intro h; simp; omega
  | false =>
    have e1 : (firstOf v).length = (cellsOf v.kind).length := by unfold firstOf; rw [hv]; simp
    rw [e1]
    have := h3 hv
    exact ⟨fun h => by omega, fun _ => rfl⟩

/-! ### of the program's own, some left out -/
theorem keys_nodup : ∀ (l : List GVar) (ks : List (List UInt8)), (l.map GVar.name).Nodup → (∀ v ∈ l, v.name ∉ ks) → (keysOf l ks).length = ks.length + l.length
  | [], ks, _, _ => by simp [keysOf]
  | v :: r, ks, hn, hk => by
    simp only [List.map_cons, List.nodup_cons] at hn
    have h1 : v.name ∉ ks := hk v (List.mem_cons_self ..)
    have e : addKey ks v.name = ks ++ [v.name] := by unfold addKey; rw [if_neg h1]
    simp only [keysOf, e]
    rw [keys_nodup r _ hn.2 fun u hu hm => by
      rcases List.mem_append.1 hm with hm | hm
      · exact hk u (List.mem_cons_of_mem _ hu) hm
      · simp at hm
        exact hn.1 (List.mem_map.2 ⟨u, hu, hm⟩)]
    simp only [List.length_append, List.length_cons, List.length_nil]; omega
theorem firstF_sub {a b : List GVar} (h : a.Sublist b) : (firstF a).length ≤ (firstF b).length := by
  induction h with
  | slnil => exact Nat.le_refl _
  | cons v _ ih => simp only [firstF, List.length_append]; omega
  | cons_cons v _ ih => simp only [firstF, List.length_append]; omega
theorem may_sub {a b : List GVar} (h : a.Sublist b) (hb : b.all mayVar = true) (hl : b.length ≤ 12) (hc : (firstF b).length ≤ 64) (hn : (b.map GVar.name).Nodup) : mayE a = 0 := by
  have hall : a.all mayVar = true := by
    rw [List.all_eq_true] at hb ⊢
    exact fun v hv => hb v (h.subset hv)
  have hlen := h.length_le
  have hs : sumW a 0 = ((0 + (firstF a).length : Nat) : Int) := sumW_tot a 0 hall (by omega)
  have hfa := firstF_sub h
  have hk := keys_nodup a [] (List.Nodup.sublist (h.map GVar.name) hn) (fun _ _ h => by cases h)
  unfold mayE
  have h1 : ¬ (a.all mayVar = false ∨ 12 < a.length) := fun h => by
    rcases h with h | h
    · rw [hall] at h; cases h
    · omega
  rw [if_neg h1, if_neg (by rw [hs]; omega), if_neg (by rw [hk]; simp)]
end Go.Proofs.YtbceomdmpbmnkaaDoor.vars
/-
  What the calls of the law VarsWhere come to.
-/
set_option maxRecDepth 100000
set_option linter.unusedVariables false
set_option linter.unusedSimpArgs false
namespace Go.Proofs.YtbceomdmpbmnkaaDoor.vars
open Go Go.Sx
def va (n : List UInt8) (role kind size : Int) (first safe : GVal) : GVar := ⟨n, role, kind, size, first, safe⟩
/-- what a program has -/
def playV : List GVar :=
  [⟨[97], 1, 2, 0, ⟨2, 0, 0⟩, ⟨0, 0, 0⟩⟩, ⟨[98], 1, 1, 0, ⟨1, 0, 0⟩, ⟨0, 0, 0⟩⟩, ⟨[111], 2, 2, 0, ⟨2, 0, 0⟩, ⟨2, 7, 0⟩⟩, ⟨[113], 2, 1, 0, ⟨1, 0, 0⟩, ⟨1, 1, 0⟩⟩, ⟨[120], 3, 2, 0, ⟨2, 5, 0⟩, ⟨0, 0, 0⟩⟩, ⟨[121], 3, 3, 0, ⟨3, 0, 0⟩, ⟨0, 0, 0⟩⟩,
   ⟨[122], 3, 5, 0, ⟨5, 0, 0⟩, ⟨0, 0, 0⟩⟩, ⟨[119], 3, 4, 0, ⟨4, 0, 0⟩, ⟨0, 0, 0⟩⟩, ⟨[107], 3, 2, 4, ⟨2, 0, 0⟩, ⟨0, 0, 0⟩⟩, ⟨[116, 109], 3, 6, 0, ⟨0, 0, 0⟩, ⟨0, 0, 0⟩⟩, ⟨[99], 3, 9, 0, ⟨0, 0, 0⟩, ⟨0, 0, 0⟩⟩, ⟨[101], 3, 11, 0, ⟨0, 0, 0⟩, ⟨0, 0, 0⟩⟩]
theorem p9 : Pure Tryd.prog 9 [] (vrs playV) := memo_ok (n := 300) mo ov (by kernel_rfl)
theorem play_may {a : List GVar} (h : a.Sublist playV) : mayE a = 0 ∧ a.length ≤ 12 ∧ ∀ v ∈ a, Plain v := by
  refine ⟨may_sub h (by decide +kernel) (by decide +kernel) (by decide +kernel) (by decide +kernel), h.length_le, fun v hv => ?_⟩
  have := h.subset hv
  simp only [playV, List.mem_cons, List.not_mem_nil, or_false] at this
  rcases this with rfl | rfl | rfl | rfl | rfl | rfl | rfl | rfl | rfl | rfl | rfl | rfl <;> exact ⟨by decide, by decide, by decide⟩
end Go.Proofs.YtbceomdmpbmnkaaDoor.vars
/-
  What the functions of path come to, each by its tree.
-/
set_option maxRecDepth 100000
set_option linter.unusedVariables false
set_option linter.unusedSimpArgs false
namespace Go.Proofs.YtbceomdmpbmnkaaDoor.vars
open Go Go.Sx
/-! ### strings -/
theorem run_adds {P : Program} (t : TypeId) (cx cy : Bool) (a b : List UInt8) (h : a.length + b.length < 1000000) : (XOp.bin .add t cx cy).run P [.str a, .str b] = some (.str (a ++ b)) := by
  show (match Nat.blt (Nat.add (lenB a) (lenB b)) 9223372036854775807 with
      | true => some (AV.str (appB a b))
      | false => none) = _
  have : Nat.blt (Nat.add (lenB a) (lenB b)) 9223372036854775807 = true := by
    rw [Nat.blt_eq, lenB_eq, lenB_eq]
    show a.length + b.length < _
    omega
  rw [this, appB_eq]
theorem run_eqs {P : Program} (t : TypeId) (cx cy : Bool) (a b : List UInt8) : (XOp.bin .eql t cx cy).run P [.str a, .str b] = some (.bool (decide (a = b))) := by
  show some (AV.bool (eqB a b)) = _
  rw [eqB_eq]
  by_cases h : a = b <;> simp [h]
def encS (s : List UInt8) : List AV := [.str s]
theorem lenS1 (s : List UInt8) : (encS s).length = 1 := rfl
theorem okS1 (s : List UInt8) : okL (encS s) = true := rfl
abbrev strs (l : List (List UInt8)) : AV := sliceOf encS 1 l
theorem okStrs (l : List (List UInt8)) : okC (strs l) = true := sliceOf_ok okS1 l
structure GTag where
  path : List UInt8
  addr : Int
  kind : Int
  role : Int
deriving DecidableEq
def encTag (t : GTag) : List AV := [.str t.path, .int .i64 t.addr, .int .i64 t.kind, .int .i64 t.role]
theorem lenTag (t : GTag) : (encTag t).length = 4 := rfl
theorem okTag (t : GTag) : okL (encTag t) = true := rfl
abbrev tags (l : List GTag) : AV := sliceOf encTag 4 l
theorem okTags (l : List GTag) : okC (tags l) = true := sliceOf_ok okTag l
theorem len32 (l : List (List UInt8)) : (XOp.len 32).run Tryd.prog [strs l] = some (.int .i64 (l.length : Int)) := run_len_sl Tryd.underlying32 l
theorem len26 (l : List GTag) : (XOp.len 26).run Tryd.prog [tags l] = some (.int .i64 (l.length : Int)) := run_len_sl Tryd.underlying26 l
theorem ia32 {l : List (List UInt8)} {i : Nat} (h : i < l.length) : (XOp.iaddr 32).run Tryd.prog [strs l, .int .i64 (i : Int)] = some (.vptr (encL encS (l.drop i))) :=
  run_iaddr_sl (ti := (Tryd.prog.info? 9).get!) Tryd.underlying32 (by kernel_rfl) (by kernel_rfl) lenS1 h .i64
theorem ld9 {l : List (List UInt8)} {i : Nat} (h : i < l.length) : (XOp.load 9).run Tryd.prog [.vptr (encL encS (l.drop i))] = some (.str l[i]) := by
  rw [List.drop_eq_getElem_cons h]
  exact run_load_one Tryd.underlying9 rfl _ _
theorem app4_40 (l : List GTag) (t : GTag) (hl : l.length ≤ 100000) : (XOp.app 4 40).run Tryd.prog [tags l, .agg (encTag t)] = some (tags (l ++ [t])) := run_app_sl (enc := encTag) lenTag (by decide) (by decide) l t (by omega)
theorem apps4_40 (l l' : List GTag) (hl : l.length + l'.length ≤ 100000) : (XOp.app 4 40).run Tryd.prog [tags l, tags l'] = some (tags (l ++ l')) := run_app_sls (enc := encTag) lenTag (by decide) (by decide) l l' (by omega)

/-! ### a digit -/
def digit (i : Nat) : List UInt8 := [UInt8.ofNat (48 + i)]
theorem p32 (i : Nat) (h : i < 8) : Pure Tryd.prog 32 [.int .i64 (i : Int)] (.str (digit i)) := by
  rcases (by omega : i = 0 ∨ i = 1 ∨ i = 2 ∨ i = 3 ∨ i = 4 ∨ i = 5 ∨ i = 6 ∨ i = 7) with rfl | rfl | rfl | rfl | rfl | rfl | rfl | rfl
  all_goals exact memo_ok (n := 300) mo ov (by kernel_rfl)

/-! ### a block's cells with a name -/
def c31 : VC := ⟨⟨[], []⟩, [], []⟩
def t31 : VT :=
 (.lt (.bin .eql 3 false true) [.sym 64, .int .i64 6] 65 none
 (.ite 65
  (.done (.tup [.vsl 2 1 [.str [113], .str [101, 116]], .vsl 2 1 [.int .i64 1, .int .i64 4]]))
  (.lt (.bin .eql 3 false true) [.sym 64, .int .i64 7] 66 none
  (.ite 66
   (.done (.tup [.vsl 2 1 [.str [113], .str [101, 116]], .vsl 2 1 [.int .i64 1, .int .i64 4]]))
   (.lt (.bin .eql 3 false true) [.sym 64, .int .i64 8] 67 none
   (.ite 67
    (.done (.tup [.vsl 2 1 [.str [113], .str [101, 116]], .vsl 2 1 [.int .i64 1, .int .i64 4]]))
    (.lt (.bin .eql 3 false true) [.sym 64, .int .i64 9] 68 none
    (.ite 68
     (.done (.tup [.vsl 2 1 [.str [113], .str [99, 118]], .vsl 2 1 [.int .i64 1, .int .i64 2]]))
     (.lt (.bin .eql 3 false true) [.sym 64, .int .i64 10] 69 none
     (.ite 69
      (.done (.tup [.vsl 2 1 [.str [113], .str [99, 118]], .vsl 2 1 [.int .i64 1, .int .i64 2]]))
      (.lt (.bin .eql 3 false true) [.sym 64, .int .i64 11] 70 none
      (.ite 70
       (.done (.tup [.vsl 1 1 [.str [113]], .vsl 1 1 [.int .i64 1]]))
       (.lt (.bin .eql 3 false true) [.sym 64, .int .i64 12] 71 none
       (.ite 71
        (.done (.tup [.vsl 1 1 [.str [113]], .vsl 1 1 [.int .i64 1]]))
        (.done (.tup [.nsl, .nsl]))))))))))))))))
def namesOf (k : Int) : List (List UInt8) :=
  if k = 6 then [[113], [101, 116]] else if k = 7 then [[113], [101, 116]] else if k = 8 then [[113], [101, 116]] else if k = 9 then [[113], [99, 118]] else if k = 10 then [[113], [99, 118]] else if k = 11 then [[113]] else if k = 12 then [[113]] else []
def kindsOf (k : Int) : List Int :=
  if k = 6 then [1, 4] else if k = 7 then [1, 4] else if k = 8 then [1, 4] else if k = 9 then [1, 2] else if k = 10 then [1, 2] else if k = 11 then [1] else if k = 12 then [1] else []
theorem kinds_len (k : Int) : (kindsOf k).length = (namesOf k).length := by
  unfold kindsOf namesOf
  repeat' split
  all_goals rfl
theorem p31 (k : Int) : Pure Tryd.prog 31 [.int .i64 k] (.tup [strs (namesOf k), ints (kindsOf k)]) := by
  refine pure_shape (sh := [none]) (ls := [.int .i64 k]) (c := c31) (n := 300) (t := t31) mo ov rfl rfl (by simp only [noRef, noRefL, okC_noRef (okStrs _), okC_noRef (okInts _)]) (fun Y _ => known0 _) rfl (by kernel_rfl) fun Y hf hg => ?_
  unfold t31
  repeat' (first
    | refine VOK_lt (run_eql ..) rfl ?_
    | refine VOK_ite rfl (fun h => ?_) (fun h => ?_)
    | refine VOK_done ?_)
  all_goals (simp only [decide_eq_true_eq, decide_eq_false_iff_not] at *)
  all_goals (unfold namesOf kindsOf)
  all_goals (simp only [*, if_true, if_false]; try rfl)

/-! ### a variable's tags -/
def c20 : VC := ⟨⟨[], []⟩, [(31, [none, none]), (32, [none])], [(0, [⟨[(18, .slx 0 0 0), (2, .ptr 0 0), (6, .sym 76), (1, .sym 74), (4, .slx 1 4 1), (16, .sym 75), (5, .sym 75), (17, .sym 77)], [(0, [.sym 64, .sym 65, .sym 66, .sym 67, .sym 68, .sym 69, .sym 70, .sym 71, .sym 72, .sym 73])], 2, 2, [⟨1, 4, 1, 4, none⟩], []⟩]), (3, [⟨[(62, .slx 0 0 0), (2, .ptr 0 0), (1, .sym 74), (4, .slx 1 4 1), (61, .sym 67)], [(0, [.sym 64, .sym 65, .sym 66, .sym 67, .sym 68, .sym 69, .sym 70, .sym 71, .sym 72, .sym 73])], 2, 2, [⟨1, 4, 1, 4, none⟩], []⟩])]⟩
def t20 : VT :=
 (.call 31 [.sym 66] 75 [none, none]
 (.lt (.len 32) [.sym 75] 77 none
 (.loop 78 0 [.int .i64 0, .nsl]
  (.cons 2
  (.lt (.bin .lss 3 false false) [.sym 78, .sym 77] 80 none
  (.ite 80
   (.lt (.iaddr 32) [.sym 75, .sym 78] 81 none
   (.lt (.load 9) [.sym 81] 82 none
   (.lt (.bin .add 9 false true) [.sym 64, .str [46]] 83 none
   (.lt (.bin .add 9 false false) [.sym 83, .sym 82] 84 none
   (.lt (.bin .add 3 false false) [.sym 74, .sym 78] 85 none
   (.lt (.iaddr 49) [.sym 76, .sym 78] 86 none
   (.lt (.load 3) [.sym 86] 87 none
   (.lt (.app 4 40) [.sym 79, .agg [.sym 84, .sym 85, .sym 87, .sym 65]] 88 none
   (.lt (.bin .add 3 false true) [.sym 78, .int .i64 1] 89 none
   (.again 0 0 [.sym 89, .sym 88]))))))))))
   (.lt (.len 32) [.sym 75] 81 none
   (.lt (.bin .gtr 3 false true) [.sym 81, .int .i64 0] 82 none
   (.ite 82
    (.done (.sym 79))
    (.lt (.bin .eql 3 false true) [.sym 67, .int .i64 0] 83 none
    (.ite 83
     (.done (.vsl 1 4 [.sym 64, .sym 74, .sym 66, .sym 65]))
     (.loop 84 0 [.int .i64 0, .sym 79]
      (.cons 2
      (.lt (.bin .lss 3 false false) [.sym 84, .sym 67] 86 none
      (.ite 86
       (.lt (.bin .add 9 false true) [.sym 64, .str [91]] 87 none
       (.call 32 [.sym 84] 88 [none]
       (.lt (.bin .add 9 false false) [.sym 87, .sym 88] 89 none
       (.lt (.bin .add 9 false true) [.sym 89, .str [93]] 90 none
       (.lt (.bin .add 3 false false) [.sym 74, .sym 84] 91 none
       (.lt (.app 4 40) [.sym 85, .agg [.sym 90, .sym 91, .sym 66, .sym 65]] 92 none
       (.lt (.bin .add 3 false true) [.sym 84, .int .i64 1] 93 none
       (.again 1 0 [.sym 93, .sym 92]))))))))
       (.done (.sym 85))))
      .nil)))))))))
  .nil))))
def w64 (n : Int) : Int := IntKind.i64.wrap n
/-- a block's tag, a row's tag -/
def nameTag (v : GVar) (a : Int) (i : Nat) : GTag := ⟨v.name ++ [46] ++ (namesOf v.kind).getD i [], w64 (a + i), (kindsOf v.kind).getD i 0, v.role⟩
def cellTag (v : GVar) (a : Int) (i : Nat) : GTag := ⟨v.name ++ [91] ++ digit i ++ [93], w64 (a + i), v.kind, v.role⟩
def tagsOf (v : GVar) (a : Int) : List GTag :=
  if 0 < (namesOf v.kind).length then (List.range (namesOf v.kind).length).map (nameTag v a)
  else if v.size = 0 then [⟨v.name, a, v.kind, v.role⟩] else (List.range v.size.toNat).map (cellTag v a)
theorem map_range_succ {α : Type} (f : Nat → α) (i : Nat) : (List.range (i + 1)).map f = (List.range i).map f ++ [f i] := by rw [List.range_succ, List.map_append]; rfl
theorem names_le (k : Int) : (namesOf k).length ≤ 2 ∧ ∀ s ∈ namesOf k, s.length ≤ 2 := by
  unfold namesOf
  repeat' split
  all_goals simp
theorem p20 (v : GVar) (a : Int) (hn : v.name.length ≤ 8) (hs : 0 ≤ v.size ∧ v.size ≤ 8) : Pure Tryd.prog 20 [.agg (encVar v), .int .i64 a] (tags (tagsOf v a)) := by
  refine pure_shape (sh := [some 10, none]) (ls := encVar v ++ [.int .i64 a]) (c := c20) (n := 300) (t := t20) mo ov rfl rfl (okC_noRef (okTags _)) (fun Y _ => known0 _) rfl (by kernel_rfl) fun Y hf hg => ?_
  unfold t20
  obtain ⟨hn2, hnl⟩ := names_le v.kind
  have hkl := kinds_len v.kind
  refine VOK_call (p31 v.kind) rfl (by simp only [okL, okC, okStrs, okInts]) (VOK_lt (len32 _) rfl ?_)
  refine VOK_loop (ι := Nat) (fun i => [.int .i64 i, tags ((List.range i).map (nameTag v a))]) (fun i => i ≤ (namesOf v.kind).length) (fun i => (namesOf v.kind).length - i) 0 (Nat.zero_le _) rfl
    (fun i _ => by simp only [okL, okC, okTags]) (fun i j _ _ h => ?_) (fun i hi => ?_)
  · simp at h; have h : i = j := by omega
    rw [h]
  refine VOK_lt (run_lss ..) rfl (VOK_ite rfl (fun hlt => ?_) (fun hlt => ?_))
  · have hlt : i < (namesOf v.kind).length := by simp only [decide_eq_true_eq] at hlt; omega
    have hlk : i < (kindsOf v.kind).length := by omega
    have e1 : (namesOf v.kind).getD i [] = (namesOf v.kind)[i] := by simp [hlt]
    have e2 : (kindsOf v.kind).getD i 0 = (kindsOf v.kind)[i] := by simp [hlk]
    have hl2 := hnl _ (List.getElem_mem hlt)
    refine VOK_lt (ia32 hlt) (encL_ok okS1 _) (VOK_lt (ld9 hlt) rfl (VOK_lt (run_adds _ _ _ v.name [46] (by simp; omega)) rfl (VOK_lt (run_adds _ _ _ _ _ (by simp; omega)) rfl (VOK_lt (run_add ..) rfl (VOK_lt (ia49 hlk) (encL_ok okI1 _) (VOK_lt (ld3i hlk) rfl ?_))))))
    refine VOK_lt (r := tags ((List.range i).map (nameTag v a) ++ [nameTag v a i])) ?_ (okTags _) (VOK_lt (run_add ..) rfl (VOK_again rfl ⟨i + 1, hlt, ?_, by omega⟩))
    · unfold nameTag
      rw [e1, e2]
      exact app4_40 _ ⟨v.name ++ [46] ++ (namesOf v.kind)[i], w64 (a + i), (kindsOf v.kind)[i], v.role⟩ (by simp; omega)
    · rw [map_range_succ, ← wrapS hlt (by omega)]; rfl
  have he : i = (namesOf v.kind).length := by simp only [decide_eq_false_iff_not] at hlt; omega
  subst he
  refine VOK_lt (len32 _) rfl (VOK_lt (run_gtr ..) rfl (VOK_ite rfl (fun h => VOK_done ?_) (fun h => VOK_lt (run_eql ..) rfl (VOK_ite rfl (fun h2 => VOK_done ?_) (fun h2 => ?_)))))
  · have h' : 0 < (namesOf v.kind).length := by simp only [decide_eq_true_eq] at h; omega
    show tags _ = tags (tagsOf v a)
    unfold tagsOf; rw [if_pos h']
  · have h' : ¬ 0 < (namesOf v.kind).length := by simp only [decide_eq_false_iff_not] at h; omega
    have h2' : v.size = 0 := by simpa using h2
    show _ = tags (tagsOf v a)
    unfold tagsOf; rw [if_neg h', if_pos h2']; rfl
  have h' : ¬ 0 < (namesOf v.kind).length := by simp only [decide_eq_false_iff_not] at h; omega
  have h2' : ¬ v.size = 0 := by simpa using h2
  have hl0 : (namesOf v.kind).length = 0 := by omega
  obtain ⟨m, hm⟩ : ∃ m : Nat, v.size = m := ⟨v.size.toNat, by omega⟩
  have htg : tagsOf v a = (List.range m).map (cellTag v a) := by unfold tagsOf; rw [if_neg h', if_neg h2', hm]; rfl
  rw [htg]
  refine VOK_loop (ι := Nat) (fun i => [.int .i64 i, tags ((List.range i).map (cellTag v a))]) (fun i => i ≤ m) (fun i => m - i) 0 (Nat.zero_le _) (by rw [hl0]; rfl)
    (fun i _ => by simp only [okL, okC, okTags]) (fun i j _ _ h => ?_) (fun i hi => ?_)
  · simp at h; have h : i = j := by omega
    rw [h]
  refine VOK_lt (run_lss ..) rfl (VOK_ite rfl (fun hlt => ?_) (fun hlt => VOK_done ?_))
  · have hlt : i < m := by simp only [decide_eq_true_eq] at hlt; omega
    refine VOK_lt (run_adds _ _ _ v.name [91] (by simp; omega)) rfl (VOK_call (p32 i (by omega)) rfl rfl (VOK_lt (run_adds _ _ _ _ (digit i) (by simp [digit]; omega)) rfl (VOK_lt (run_adds _ _ _ _ [93] (by simp [digit]; omega)) rfl (VOK_lt (run_add ..) rfl ?_))))
    refine VOK_lt (r := tags ((List.range i).map (cellTag v a) ++ [cellTag v a i])) (app4_40 _ (cellTag v a i) (by simp; omega)) (okTags _) (VOK_lt (run_add ..) rfl (VOK_again rfl ⟨i + 1, hlt, ?_, by omega⟩))
    rw [map_range_succ, ← wrapS hlt (by omega)]; rfl
  · have he : i = m := by simp only [decide_eq_false_iff_not] at hlt; omega
    subst he; rfl
end Go.Proofs.YtbceomdmpbmnkaaDoor.vars
