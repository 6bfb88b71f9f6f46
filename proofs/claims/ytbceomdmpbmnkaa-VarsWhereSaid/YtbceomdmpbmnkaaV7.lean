/-
  What the functions of vars come to, each by its tree: First.
-/
import Derived.Test.YtbceomdmpbmnkaaV6
import Derived.KernelRfl
set_option maxRecDepth 100000
set_option linter.unusedVariables false
set_option linter.unusedSimpArgs false
namespace Go.Proofs.Ytbceomdmpbmnkaa.vars
open Go Go.Sx
def c15 : VC := ⟨⟨[], []⟩, [(12, [none]), (32, [none]), (33, [none]), (34, [none]), (21, [(some 3)])], [(0, [⟨[(12, .slx 0 0 0), (2, .slx 0 3 1), (10, .sym 64), (11, .sym 67)], [], 1, 2, [⟨0, 3, 1, 2, none⟩], []⟩]), (2, [⟨[(32, .slx 0 0 0), (2, .slx 0 3 1), (30, .sym 83), (12, .sym 68), (10, .sym 64), (11, .sym 67), (31, .sym 84)], [], 1, 2, [⟨0, 3, 1, 2, none⟩], []⟩])]⟩
def t15 : VT :=
 (.call 12 [.sym 64] 65 [none]
 (.lt (.bin .neq 35 false true) [.sym 65, .int .i64 0] 66 none
 (.ite 66
  (.done (.nsl))
  (.lt (.len 22) [.sym 64] 67 none
  (.loop 68 0 [.int .i64 0, .nsl]
   (.cons 2
   (.lt (.bin .lss 3 false false) [.sym 68, .sym 67] 70 none
   (.ite 70
    (.lt (.iaddr 22) [.sym 64, .sym 68] 71 none
    (.lt (.load 50) [.sym 71] 72 (some 10)
    (.call 32 [.sym 74] 82 [none]
    (.ite 82
     (.lt (.mm true) [.sym 75, .int .i64 1] 83 none
     (.call 33 [.vsl 1 3 [.sym 76, .sym 77, .sym 78], .sym 83] 84 [none]
     (.lt (.app 3 24) [.sym 69, .sym 84] 85 none
     (.lt (.bin .add 3 false true) [.sym 68, .int .i64 1] 86 none
     (.again 0 0 [.sym 86, .sym 85])))))
     (.call 34 [.sym 74] 83 [none]
     (.lt (.len 30) [.sym 83] 84 none
     (.loop 85 0 [.int .i64 0, .sym 69]
      (.cons 2
      (.lt (.bin .lss 3 false false) [.sym 85, .sym 84] 87 none
      (.ite 87
       (.lt (.iaddr 30) [.sym 83, .sym 85] 88 none
       (.lt (.load 3) [.sym 88] 89 none
       (.call 21 [.sym 89] 90 [(some 3)]
       (.lt (.app 3 24) [.sym 86, .agg [.sym 90, .sym 91, .sym 92]] 93 none
       (.lt (.bin .add 3 false true) [.sym 85, .int .i64 1] 94 none
       (.again 1 0 [.sym 94, .sym 93]))))))
       (.lt (.bin .add 3 false true) [.sym 68, .int .i64 1] 88 none
       (.again 0 0 [.sym 88, .sym 86]))))
      .nil))))))))
    (.done (.sym 69))))
   .nil))))))
def sizeOf1 (v : GVar) : Nat := (max v.size 1).toNat
def firstOf (v : GVar) : List GVal := if isValue v.kind = true then List.replicate (sizeOf1 v) v.first else (cellsOf v.kind).map zeroOf
def firstF : List GVar → List GVal
  | [] => []
  | v :: r => firstOf v ++ firstF r
theorem firstF_snoc (v : GVar) : ∀ l : List GVar, firstF (l ++ [v]) = firstF l ++ firstOf v
  | [] => by simp [firstF]
  | a :: r => by simp only [List.cons_append, firstF, firstF_snoc v r, List.append_assoc]
theorem cells_le (k : Int) : (cellsOf k).length ≤ 4 := by
  unfold cellsOf
  repeat' split
  all_goals simp
theorem size_le {v : GVar} (h : mayVar v = true) : v.size ≤ 8 ∧ 0 ≤ v.size := by
  unfold mayVar at h
  repeat' (split at h <;> first | (cases h; done) | skip)
  all_goals omega
theorem firstOf_le {v : GVar} (h : mayVar v = true) : (firstOf v).length ≤ 8 := by
  obtain ⟨h1, h2⟩ := size_le h
  unfold firstOf
  split
  · rw [List.length_replicate]; unfold sizeOf1; omega
  · rw [List.length_map]; have := cells_le v.kind; omega
theorem firstF_le : ∀ l : List GVar, l.all mayVar = true → (firstF l).length ≤ 8 * l.length
  | [], _ => by simp [firstF]
  | v :: r, h => by
    simp only [List.all_cons, Bool.and_eq_true] at h
    have h1 := firstOf_le h.1
    have h2 := firstF_le r h.2
    simp only [firstF, List.length_append, List.length_cons]; omega
theorem may_all {l : List GVar} (h : mayE l = 0) : l.all mayVar = true ∧ l.length ≤ 12 ∧ sumW l 0 ≤ 64 ∧ (keysOf l []).length ≥ l.length := by
  unfold mayE at h
  split at h
  · cases h
  rename_i h1
  split at h
  · cases h
  rename_i h2
  split at h
  · cases h
  rename_i h3
  simp only [not_or, Bool.not_eq_false] at h1
  exact ⟨h1.1, by omega, by omega, by omega⟩
theorem all_take {l : List GVar} (h : l.all mayVar = true) (i : Nat) : (l.take i).all mayVar = true := by
  rw [List.all_eq_true] at h ⊢
  exact fun v hv => h v (List.mem_of_mem_take hv)
theorem ia30 {l : List Int} {i : Nat} (h : i < l.length) : (XOp.iaddr 30).run Try.prog [ints l, .int .i64 (i : Int)] = some (.vptr (encL encI (l.drop i))) :=
  run_iaddr_sl (ti := (Try.prog.info? 3).get!) Try.underlying30 (by kernel_rfl) (by kernel_rfl) lenI h .i64
theorem ld3i {l : List Int} {i : Nat} (h : i < l.length) : (XOp.load 3).run Try.prog [.vptr (encL encI (l.drop i))] = some (.int .i64 l[i]) := by
  rw [List.drop_eq_getElem_cons h]
  exact run_load_one Try.underlying3 rfl _ _
theorem p15 (l : List GVar) (hl : l.length ≤ 1000) (hz : ∀ v ∈ l, Plain v) : Pure Try.prog 15 [vrs l] (if mayE l = 0 then vals (firstF l) else .nsl) := by
  refine pure_shape (sh := [none]) (ls := [vrs l]) (c := c15) (n := 300) (t := t15) mo ov rfl (okC1 (okVrs l)) (by split <;> simp [noRef, okC_noRef (okVals _)]) (fun Y _ => known0 _) rfl (by kernel_rfl) fun Y hf hg => ?_
  unfold t15
  refine VOK_call (p12 l hl hz) rfl rfl (VOK_lt (run_neq ..) rfl (VOK_ite rfl (fun h => VOK_done ?_) (fun h => VOK_lt (len22 l) rfl ?_)))
  · have h' : ¬ mayE l = 0 := by simpa using h
    rw [if_neg h']; rfl
  have h' : mayE l = 0 := by simpa using h
  rw [if_pos h']
  obtain ⟨hall, h12, _, _⟩ := may_all h'
  refine VOK_loop (ι := Nat) (fun i => [.int .i64 i, vals (firstF (l.take i))]) (fun i => i ≤ l.length) (fun i => l.length - i) 0 (Nat.zero_le _) rfl
    (fun i _ => by simp only [okL, okC, okVals]) (fun i j _ _ h => ?_) (fun i hi => ?_)
  · simp at h; have h : i = j := by omega
    rw [h]
  have hfl : (firstF (l.take i)).length ≤ 8 * 12 := by
    have h1 := firstF_le (l.take i) (all_take hall i)
    have h2 : (l.take i).length ≤ 12 := by rw [List.length_take]; omega
    omega
  refine VOK_lt (run_lss ..) rfl (VOK_ite rfl (fun hlt => ?_) (fun hlt => VOK_done ?_))
  · have hlt : i < l.length := by simp only [decide_eq_true_eq] at hlt; omega
    have hmv : mayVar l[i] = true := by rw [List.all_eq_true] at hall; exact hall _ (List.getElem_mem hlt)
    obtain ⟨hs1, hs2⟩ := size_le hmv
    refine VOK_lt (ia22 hlt) (encL_ok okVar _) (VOK_ltN (ld50 hlt) rfl rfl (VOK_call (p32 l[i].kind) rfl rfl (VOK_ite rfl (fun hk => ?_) (fun hk => ?_))))
    · have hmx : max l[i].size 1 = ((sizeOf1 l[i] : Nat) : Int) := by unfold sizeOf1; omega
      have hfo : firstOf l[i] = List.replicate (sizeOf1 l[i]) l[i].first := by unfold firstOf; rw [hk]; rfl
      refine VOK_lt (r := .int .i64 (sizeOf1 l[i] : Nat)) (by rw [← hmx]; exact run_max ..) rfl (VOK_call (p33 l[i].first (sizeOf1 l[i]) (by unfold sizeOf1; omega) (by unfold sizeOf1; omega)) rfl (okC1 (okVals _)) ?_)
      refine VOK_lt (apps3_24 _ _ (by rw [List.length_replicate]; unfold sizeOf1; omega)) (okVals _) (VOK_lt (run_add ..) rfl (VOK_again rfl ⟨i + 1, hlt, ?_, by omega⟩))
      rw [take_snoc l hlt, firstF_snoc, hfo, ← wrapS hlt hl]; rfl
    · have hfo : firstOf l[i] = (cellsOf l[i].kind).map zeroOf := by unfold firstOf; rw [hk]; rfl
      have hcl := cells_le l[i].kind
      refine VOK_call (p34 l[i].kind) rfl (okC1 (okInts _)) (VOK_lt (len30 _) rfl ?_)
      refine VOK_loop (ι := Nat) (fun j => [.int .i64 j, vals (firstF (l.take i) ++ ((cellsOf l[i].kind).take j).map zeroOf)]) (fun j => j ≤ (cellsOf l[i].kind).length) (fun j => (cellsOf l[i].kind).length - j) 0 (Nat.zero_le _) (by simp only [List.take_zero, List.map_nil, List.append_nil]; rfl)
        (fun i _ => by simp only [okL, okC, okVals]) (fun i j _ _ h => ?_) (fun j hj => ?_)
      · simp at h; have h : i = j := by omega
        rw [h]
      refine VOK_lt (run_lss ..) rfl (VOK_ite rfl (fun hjl => ?_) (fun hjl => ?_))
      · have hjl : j < (cellsOf l[i].kind).length := by simp only [decide_eq_true_eq] at hjl; omega
        refine VOK_lt (ia30 hjl) (encL_ok okI1 _) (VOK_lt (ld3i hjl) rfl (VOK_call (p21 (cellsOf l[i].kind)[j]) rfl rfl (VOK_lt (app3_24 _ _ (by rw [List.length_append, List.length_map, List.length_take]; omega)) (okVals _) (VOK_lt (run_add ..) rfl (VOK_again rfl ⟨j + 1, hjl, ?_, by omega⟩)))))
        rw [List.take_succ_eq_append_getElem hjl, List.map_append, ← wrapS hjl (by omega), ← List.append_assoc]; rfl
      · have he : j = (cellsOf l[i].kind).length := by simp only [decide_eq_false_iff_not] at hjl; omega
        subst he
        refine VOK_lt (run_add ..) rfl (VOK_again rfl ⟨i + 1, hlt, ?_, by omega⟩)
        rw [take_snoc l hlt, firstF_snoc, hfo, ← wrapS hlt hl]
        show [AV.int .i64 _, vals (firstF (l.take i) ++ ((cellsOf l[i].kind).take (cellsOf l[i].kind).length).map zeroOf)] = _
        rw [List.take_length]
  · have he : i = l.length := by simp only [decide_eq_false_iff_not] at hlt; omega
    subst he
    show vals (firstF (l.take l.length)) = _
    rw [List.take_length]
end Go.Proofs.Ytbceomdmpbmnkaa.vars
