/-
  What the functions of path and of the document come to, each by its tree: Tags; Width, BlockKinds, Zero, cells.
-/
import Derived.Test.YtbceomdmpbmnkaaDoorV6
import Derived.KernelRfl
import Derived.Test.YtbceomdmpbmnkaaDoorSyG
set_option maxRecDepth 100000
set_option linter.unusedVariables false
set_option linter.unusedSimpArgs false
namespace Go.Proofs.YtbceomdmpbmnkaaDoor.vars
open Go Go.Sx
def c10 : VC := ⟨⟨[], []⟩, [(19, [none, none]), (20, [none])], [(0, [⟨[(14, .slx 0 0 0), (0, .sym 64), (2, .slx 0 4 1), (12, .sym 65), (13, .sym 67)], [], 1, 2, [⟨0, 4, 1, 2, none⟩], []⟩])]⟩
def t10 : VT :=
 (.call 19 [.sym 64] 65 [none, none]
 (.lt (.len 49) [.sym 65] 67 none
 (.loop 68 0 [.int .i64 0, .nsl]
  (.cons 2
  (.lt (.bin .lss 3 false false) [.sym 68, .sym 67] 70 none
  (.ite 70
   (.lt (.iaddr 49) [.sym 65, .sym 68] 71 none
   (.lt (.load 3) [.sym 71] 72 none
   (.lt (.iaddr 22) [.sym 64, .sym 68] 73 none
   (.lt (.load 39) [.sym 73] 74 (some 10)
   (.call 20 [.agg [.sym 74, .sym 75, .sym 76, .sym 77, .sym 78, .sym 79, .sym 80, .sym 81, .sym 82, .sym 83], .sym 72] 84 [none]
   (.lt (.app 4 40) [.sym 69, .sym 84] 85 none
   (.lt (.bin .add 3 false true) [.sym 68, .int .i64 1] 86 none
   (.again 0 0 [.sym 86, .sym 85]))))))))
   (.done (.sym 69))))
  .nil))))
/-- all tags, from a cell on -/
def tagsF : List GVar → Int → List GTag
  | [], _ => []
  | v :: r, n => tagsOf v n ++ tagsF r (IntKind.i64.wrap (n + wid v))
theorem tagsF_snoc (v : GVar) : ∀ (l : List GVar) (n : Int), tagsF (l ++ [v]) n = tagsF l n ++ tagsOf v (sumW l n)
  | [], _ => by simp [tagsF, sumW]
  | a :: r, n => by simp only [List.cons_append, tagsF, sumW, tagsF_snoc v r, List.append_assoc]
theorem tagsOf_le (v : GVar) (a : Int) (hs : v.size ≤ 8) : (tagsOf v a).length ≤ 8 := by
  have := (names_le v.kind).1
  unfold tagsOf
  split
  · simp; omega
  · split
    · simp
    · simp; omega
theorem tagsF_le : ∀ (l : List GVar) (n : Int), l.all mayVar = true → (tagsF l n).length ≤ 8 * l.length
  | [], _, _ => by simp [tagsF]
  | v :: r, n, h => by
    simp only [List.all_cons, Bool.and_eq_true] at h
    have h1 := tagsOf_le v n (size_le h.1).1
    have h2 := tagsF_le r (IntKind.i64.wrap (n + wid v)) h.2
    simp only [tagsF, List.length_append, List.length_cons]; omega
theorem name_le {v : GVar} (h : mayVar v = true) : v.name.length ≤ 8 := by
  have := (may_facts h).1
  unfold nameOk at this
  simp only [Bool.and_eq_true, decide_eq_true_eq] at this
  exact this.1.2
theorem p10 (l : List GVar) (hl : l.length ≤ 1000) (hz : ∀ v ∈ l, Plain v) (hm : mayE l = 0) : Pure Tryd.prog 10 [vrs l] (tags (tagsF l 0)) := by
  have p19' := p19 l hl hz
  rw [if_pos hm] at p19'
  obtain ⟨hall, h12, _, _⟩ := may_all hm
  refine pure_shape (sh := [none]) (ls := [vrs l]) (c := c10) (n := 300) (t := t10) mo ov rfl (okC1 (okVrs l)) (okC_noRef (okTags _)) (fun Y _ => known0 _) rfl (by kernel_rfl) fun Y hf hg => ?_
  unfold t10
  have hl49 : (XOp.len 49).run Tryd.prog [ints (addrsF l 0)] = some (.int .i64 (l.length : Int)) := by rw [len49, addrsF_len]
  refine VOK_call p19' rfl (by simp only [okL, okC, okInts]) (VOK_lt hl49 rfl ?_)
  refine VOK_loop (ι := Nat) (fun i => [.int .i64 i, tags (tagsF (l.take i) 0)]) (fun i => i ≤ l.length) (fun i => l.length - i) 0 (Nat.zero_le _) rfl
    (fun i _ => by simp only [okL, okC, okTags]) (fun i j _ _ h => ?_) (fun i hi => ?_)
  · simp at h; have h : i = j := by omega
    rw [h]
  refine VOK_lt (run_lss ..) rfl (VOK_ite rfl (fun hlt => ?_) (fun hlt => VOK_done ?_))
  · have hlt : i < l.length := by simp only [decide_eq_true_eq] at hlt; omega
    have hla : i < (addrsF l 0).length := by rw [addrsF_len]; exact hlt
    have hmv : mayVar l[i] = true := by rw [List.all_eq_true] at hall; exact hall _ (List.getElem_mem hlt)
    obtain ⟨hs1, hs2⟩ := size_le hmv
    have hat := addrs_at l 0 i hla
    have h1 := tagsF_le (l.take i) 0 (all_take hall i)
    have h2 := tagsOf_le l[i] (sumW (l.take i) 0) hs1
    have h3 : (l.take i).length ≤ 12 := by rw [List.length_take]; omega
    have hld : (XOp.load 3).run Tryd.prog [.vptr (encL encI ((addrsF l 0).drop i))] = some (.int .i64 (sumW (l.take i) 0)) := by rw [ld3i hla, hat]
    refine VOK_lt (ia49 hla) (encL_ok okI1 _) (VOK_lt hld rfl (VOK_lt (ia22 hlt) (encL_ok okVar _) (VOK_ltN (ld39 hlt) rfl rfl (VOK_call (p20 l[i] _ (name_le hmv) ⟨hs2, hs1⟩) rfl (okC1 (okTags _)) (VOK_lt (apps4_40 _ _ (by omega)) (okTags _) (VOK_lt (run_add ..) rfl (VOK_again rfl ⟨i + 1, hlt, ?_, by omega⟩)))))))
    rw [take_snoc l hlt, tagsF_snoc, ← wrapS hlt hl]; rfl
  · have he : i = l.length := by simp only [decide_eq_false_iff_not] at hlt; omega
    subst he
    show tags (tagsF (l.take l.length) 0) = _
    rw [List.take_length]

/-! ### the document's -/
def c22 : VC := ⟨⟨[], []⟩, [], []⟩
def t22 : VT :=
 (.lt (.bin .geq 3 false true) [.sym 64, .int .i64 1] 65 none
 (.ite 65
  (.lt (.bin .leq 3 false true) [.sym 64, .int .i64 5] 66 none
  (.ite 66
   (.done (.int .i64 1))
   (.lt (.bin .geq 3 false true) [.sym 64, .int .i64 6] 67 none
   (.ite 67
    (.lt (.bin .leq 3 false true) [.sym 64, .int .i64 8] 68 none
    (.ite 68
     (.done (.int .i64 4))
     (.lt (.bin .eql 3 false true) [.sym 64, .int .i64 9] 69 none
     (.ite 69
      (.done (.int .i64 3))
      (.lt (.bin .eql 3 false true) [.sym 64, .int .i64 10] 70 none
      (.ite 70
       (.done (.int .i64 3))
       (.lt (.bin .eql 3 false true) [.sym 64, .int .i64 11] 71 none
       (.ite 71
        (.done (.int .i64 2))
        (.lt (.bin .eql 3 false true) [.sym 64, .int .i64 12] 72 none
        (.ite 72
         (.done (.int .i64 2))
         (.done (.int .i64 0))))))))))))
    (.lt (.bin .eql 3 false true) [.sym 64, .int .i64 9] 68 none
    (.ite 68
     (.done (.int .i64 3))
     (.lt (.bin .eql 3 false true) [.sym 64, .int .i64 10] 69 none
     (.ite 69
      (.done (.int .i64 3))
      (.lt (.bin .eql 3 false true) [.sym 64, .int .i64 11] 70 none
      (.ite 70
       (.done (.int .i64 2))
       (.lt (.bin .eql 3 false true) [.sym 64, .int .i64 12] 71 none
       (.ite 71
        (.done (.int .i64 2))
        (.done (.int .i64 0))))))))))))))
  (.lt (.bin .geq 3 false true) [.sym 64, .int .i64 6] 66 none
  (.ite 66
   (.lt (.bin .leq 3 false true) [.sym 64, .int .i64 8] 67 none
   (.ite 67
    (.done (.int .i64 4))
    (.lt (.bin .eql 3 false true) [.sym 64, .int .i64 9] 68 none
    (.ite 68
     (.done (.int .i64 3))
     (.lt (.bin .eql 3 false true) [.sym 64, .int .i64 10] 69 none
     (.ite 69
      (.done (.int .i64 3))
      (.lt (.bin .eql 3 false true) [.sym 64, .int .i64 11] 70 none
      (.ite 70
       (.done (.int .i64 2))
       (.lt (.bin .eql 3 false true) [.sym 64, .int .i64 12] 71 none
       (.ite 71
        (.done (.int .i64 2))
        (.done (.int .i64 0))))))))))))
   (.lt (.bin .eql 3 false true) [.sym 64, .int .i64 9] 67 none
   (.ite 67
    (.done (.int .i64 3))
    (.lt (.bin .eql 3 false true) [.sym 64, .int .i64 10] 68 none
    (.ite 68
     (.done (.int .i64 3))
     (.lt (.bin .eql 3 false true) [.sym 64, .int .i64 11] 69 none
     (.ite 69
      (.done (.int .i64 2))
      (.lt (.bin .eql 3 false true) [.sym 64, .int .i64 12] 70 none
      (.ite 70
       (.done (.int .i64 2))
       (.done (.int .i64 0))))))))))))))
theorem cells_len (k : Int) : (((cellsOf k).length : Nat) : Int) = if 1 ≤ k ∧ k ≤ 5 then 1 else if 6 ≤ k ∧ k ≤ 8 then 4 else if k = 9 ∨ k = 10 then 3 else if k = 11 ∨ k = 12 then 2 else 0 := by
  unfold cellsOf isValue
  simp only [Bool.and_eq_true, decide_eq_true_eq]
  repeat' split
  all_goals first
    | rfl
    | (exfalso; omega)
theorem p22 (k : Int) : Pure Tryd.prog 22 [.int .i64 k] (.int .i64 ((cellsOf k).length : Int)) := by
  rw [cells_len]
  refine pure_shape (sh := [none]) (ls := [.int .i64 k]) (c := c22) (n := 300) (t := t22) mo ov rfl rfl rfl (fun Y _ => known0 _) rfl (by kernel_rfl) fun Y hf hg => ?_
  unfold t22
  repeat' (first
    | refine VOK_lt (run_eql ..) rfl ?_
    | refine VOK_lt (run_geq ..) rfl ?_
    | refine VOK_lt (run_leq ..) rfl ?_
    | refine VOK_ite rfl (fun h => ?_) (fun h => ?_)
    | refine VOK_done ?_)
  all_goals (simp only [decide_eq_true_eq, decide_eq_false_iff_not] at *)
  all_goals
    (show AV.int .i64 _ = AV.int .i64 _
     congr 1
     repeat' split
     all_goals first
       | rfl
       | (exfalso; omega))
def c23 : VC := ⟨⟨[], []⟩, [], []⟩
def t23 : VT :=
 (.lt (.bin .geq 3 false true) [.sym 64, .int .i64 6] 65 none
 (.ite 65
  (.lt (.bin .leq 3 false true) [.sym 64, .int .i64 8] 66 none
  (.ite 66
   (.done (.vsl 4 1 [.int .i64 1, .int .i64 4, .int .i64 1, .int .i64 4]))
   (.lt (.bin .eql 3 false true) [.sym 64, .int .i64 9] 67 none
   (.ite 67
    (.done (.vsl 3 1 [.int .i64 1, .int .i64 2, .int .i64 1]))
    (.lt (.bin .eql 3 false true) [.sym 64, .int .i64 10] 68 none
    (.ite 68
     (.done (.vsl 3 1 [.int .i64 1, .int .i64 2, .int .i64 1]))
     (.done (.vsl 2 1 [.int .i64 1, .int .i64 1]))))))))
  (.lt (.bin .eql 3 false true) [.sym 64, .int .i64 9] 66 none
  (.ite 66
   (.done (.vsl 3 1 [.int .i64 1, .int .i64 2, .int .i64 1]))
   (.lt (.bin .eql 3 false true) [.sym 64, .int .i64 10] 67 none
   (.ite 67
    (.done (.vsl 3 1 [.int .i64 1, .int .i64 2, .int .i64 1]))
    (.done (.vsl 2 1 [.int .i64 1, .int .i64 1]))))))))
def blockR (k : Int) : List Int := if 6 ≤ k ∧ k ≤ 8 then [1, 4, 1, 4] else if k = 9 ∨ k = 10 then [1, 2, 1] else [1, 1]
theorem blockR_eq {k : Int} (h : 1 < (cellsOf k).length) : blockR k = cellsOf k := by
  unfold cellsOf isValue at h ⊢
  unfold blockR
  simp only [Bool.and_eq_true, decide_eq_true_eq] at h ⊢
  repeat' split
  all_goals first
    | rfl
    | (exfalso; omega)
    | (exfalso; simp_all)
theorem p23 (k : Int) : Pure Tryd.prog 23 [.int .i64 k] (ints (blockR k)) := by
  refine pure_shape (sh := [none]) (ls := [.int .i64 k]) (c := c23) (n := 300) (t := t23) mo ov rfl rfl (okC_noRef (okInts _)) (fun Y _ => known0 _) rfl (by kernel_rfl) fun Y hf hg => ?_
  unfold t23
  repeat' (first
    | refine VOK_lt (run_eql ..) rfl ?_
    | refine VOK_lt (run_geq ..) rfl ?_
    | refine VOK_lt (run_leq ..) rfl ?_
    | refine VOK_ite rfl (fun h => ?_) (fun h => ?_)
    | refine VOK_done ?_)
  all_goals (simp only [decide_eq_true_eq, decide_eq_false_iff_not] at *)
  all_goals (unfold blockR)
  all_goals
    (repeat' split
     all_goals first
       | rfl
       | (exfalso; omega))
def c18 : VC := ⟨⟨[], []⟩, [(22, [none])], []⟩
def t18 : VT :=
 (.call 22 [.sym 64] 65 [none]
 (.lt (.bin .neq 3 false true) [.sym 65, .int .i64 1] 66 none
 (.ite 66
  (.done (.agg [.int .i64 0, .int .i64 0, .flt .f64 0]))
  (.done (.agg [.sym 64, .int .i64 0, .flt .f64 0])))))
theorem value_one (k : Int) : isValue k = true ↔ ((cellsOf k).length : Int) = 1 := by
  rw [cells_len]
  unfold isValue
  simp only [Bool.and_eq_true, decide_eq_true_eq]
  constructor
  · intro h; rw [if_pos h]
  · intro h
    by_cases h1 : 1 ≤ k ∧ k ≤ 5
    · exact h1
    · rw [if_neg h1] at h
      exfalso
      repeat' (split at h)
      all_goals omega
theorem p18 (k : Int) : Pure Tryd.prog 18 [.int .i64 k] (.agg (encVal (zeroOf k))) := by
  refine pure_shape (sh := [none]) (ls := [.int .i64 k]) (c := c18) (n := 300) (t := t18) mo ov rfl rfl rfl (fun Y _ => known0 _) rfl (by kernel_rfl) fun Y hf hg => ?_
  unfold t18
  refine VOK_call (p22 k) rfl rfl (VOK_lt (run_neq ..) rfl (VOK_ite rfl (fun h => VOK_done ?_) (fun h => VOK_done ?_)))
  · have h' : isValue k = false := by
      cases hv : isValue k with
      | false => rfl
      | true => have := (value_one k).1 hv; rw [this] at h; simp at h
    show AV.agg _ = _
    unfold zeroOf; rw [h']; rfl
  · have h' : isValue k = true := (value_one k).2 (by simpa using h)
    show AV.agg _ = _
    unfold zeroOf; rw [h']; rfl
def c27 : VC := ⟨⟨[], []⟩, [(22, [none])], []⟩
def t27 : VT :=
 (.lt (.bin .gtr 3 false true) [.sym 67, .int .i64 0] 74 none
 (.ite 74
  (.done (.sym 67))
  (.call 22 [.sym 66] 75 [none]
  (.done (.sym 75)))))
/-- how many cells, of one that may be -/
theorem p27 (v : GVar) (hv : mayVar v = true) : Pure Tryd.prog 27 [.agg (encVar v)] (.int .i64 (wid v)) := by
  obtain ⟨w1, w2⟩ := width_law hv
  have hw := wid_first hv
  refine pure_shape (sh := [some 10]) (ls := encVar v) (c := c27) (n := 300) (t := t27) mo ov rfl rfl rfl (fun Y _ => known0 _) rfl (by kernel_rfl) fun Y hf hg => ?_
  unfold t27
  refine VOK_lt (run_gtr ..) rfl (VOK_ite rfl (fun h => VOK_done ?_) (fun h => VOK_call (p22 v.kind) rfl rfl (VOK_done ?_)))
  · have h' : 0 < v.size := by simpa using h
    show AV.int .i64 v.size = _
    rw [hw, w1 h']
  · have h' : ¬ 0 < v.size := by simpa using h
    show AV.int .i64 _ = _
    rw [hw, w2 h']
end Go.Proofs.YtbceomdmpbmnkaaDoor.vars
/-
  Which variables may be, by the document: each function by its tree.
-/
set_option maxRecDepth 100000
set_option linter.unusedVariables false
set_option linter.unusedSimpArgs false
namespace Go.Proofs.YtbceomdmpbmnkaaDoor.vars
open Go Go.Sx
def c46 : VC := ⟨⟨[], []⟩, [(0, [none])], []⟩
def t46 : VT :=
 (.lt (.bin .neq 35 false false) [.sym 64, .sym 64] 65 none
 (.ite 65
  (.done (.int .u64 9221120237041090561))
  (.lt (.ext 54) [.sym 64] 66 none
  (.done (.sym 66)))))
def bitsF (n : Nat) : Int := if nanB n = true then 9221120237041090561 else (n : Int)
theorem bitsF_0 (n : Nat) : (bitsF n = 0) ↔ n = 0 := by
  unfold bitsF
  split
  · rename_i h
    have := nan_pos h
    exact ⟨fun h => by omega, fun h => absurd h this⟩
  · omega
theorem ext54 (n : Nat) : (XOp.ext 54).run Tryd.prog [.flt .f64 n] = some (.int .u64 (n : Int)) := by kernel_rfl
theorem p46 (n : Nat) : Pure Tryd.prog 46 [.flt .f64 n] (.int .u64 (bitsF n)) := by
  refine pure_shape (sh := [none]) (ls := [.flt .f64 n]) (c := c46) (n := 300) (t := t46) mo ov rfl rfl rfl (fun Y _ => known0 _) rfl (by kernel_rfl) fun Y hf hg => ?_
  unfold t46
  refine VOK_lt (run_fself ..) rfl (VOK_ite rfl (fun h => VOK_done ?_) (fun h => VOK_lt (ext54 n) rfl (VOK_done ?_)))
  · show AV.int _ _ = _
    unfold bitsF; rw [h]; rfl
  · show AV.int _ _ = _
    unfold bitsF; rw [h]; rfl
def c38 : VC := ⟨⟨[], []⟩, [(46, [none])], []⟩
def t38 : VT :=
 (.lt (.bin .eql 3 false true) [.sym 64, .int .i64 0] 67 none
 (.ite 67
  (.lt (.bin .eql 2 false true) [.sym 65, .int .i64 0] 68 none
  (.ite 68
   (.call 46 [.sym 66] 69 [none]
   (.lt (.bin .eql 77 false true) [.sym 69, .int .u64 0] 70 none
   (.done (.sym 70))))
   (.done (.bool false))))
  (.done (.bool false))))
theorem p38 (v : GVal) : Pure Tryd.prog 38 [.agg (encVal v)] (.bool (nought v)) := by
  refine pure_shape (sh := [some 3]) (ls := encVal v) (c := c38) (n := 300) (t := t38) mo ov rfl rfl rfl (fun Y _ => known0 _) rfl (by kernel_rfl) fun Y hf hg => ?_
  unfold t38
  refine VOK_lt (run_eql ..) rfl (VOK_ite rfl (fun h1 => VOK_lt (run_eql ..) rfl (VOK_ite rfl (fun h2 => VOK_call (p46 v.f) rfl rfl (VOK_lt (run_eql ..) rfl (VOK_done ?_))) (fun h2 => VOK_done ?_))) (fun h1 => VOK_done ?_))
  all_goals (show AV.bool _ = _; unfold nought; simp only [*]; try rfl)
  · have : decide (bitsF v.f = 0) = decide (v.f = 0) := by simp only [bitsF_0]
    rw [this]; rfl
def c55 : VC := ⟨⟨[], []⟩, [(0, [none])], []⟩
def t55 : VT :=
 (.ite 64
  (.done (.int .i64 1))
  (.done (.int .i64 0)))
def truthF (b : Bool) : Int := if b = true then 1 else 0
theorem p55 (b : Bool) : Pure Tryd.prog 55 [.bool b] (.int .i64 (truthF b)) := by
  refine pure_shape (sh := [none]) (ls := [.bool b]) (c := c55) (n := 300) (t := t55) mo ov rfl rfl rfl (fun Y _ => known0 _) rfl (by kernel_rfl) fun Y hf hg => ?_
  unfold t55
  refine VOK_ite rfl (fun h => VOK_done ?_) (fun h => VOK_done ?_)
  all_goals (show AV.int _ _ = _; unfold truthF; rw [h]; rfl)
theorem remI {t : TypeId} {cx cy : Bool} (x c : Int) (hc : c ≠ 0) : (XOp.bin .rem t cx cy).run Tryd.prog [.int .i64 x, .int .i64 c] = some (.int .i64 (x.tmod c)) := rem_run (P := Tryd.prog) (k := .i64) (x := x) (c := c) hc rfl t cx cy
def wrapR (n x : Int) : Int := if x.tmod n < 0 then (if n / 2 ≤ x.tmod n + n then x.tmod n + n - n else x.tmod n + n) else (if n / 2 ≤ x.tmod n then x.tmod n - n else x.tmod n)
def c47k1 : VC := ⟨⟨[], []⟩, [(55, [none])], []⟩
def t47k1 : VT :=
 (.lt (.bin .neq 2 false true) [.sym 64, .int .i64 0] 65 none
 (.call 55 [.sym 65] 66 [none]
 (.done (.sym 66))))
def c47k2 : VC := ⟨⟨[], []⟩, [(55, [none])], []⟩
def t47k2 : VT :=
 (.lt (.bin .rem 2 false false) [.sym 64, .int .i64 65536] 65 none
 (.lt (.bin .lss 2 false true) [.sym 65, .int .i64 0] 66 none
 (.ite 66
  (.lt (.bin .add 2 false false) [.sym 65, .int .i64 65536] 67 none
  (.lt (.bin .geq 2 false false) [.sym 67, .int .i64 32768] 68 none
  (.ite 68
   (.lt (.bin .sub 2 false false) [.sym 67, .int .i64 65536] 69 none
   (.done (.sym 69)))
   (.done (.sym 67)))))
  (.lt (.bin .geq 2 false false) [.sym 65, .int .i64 32768] 67 none
  (.ite 67
   (.lt (.bin .sub 2 false false) [.sym 65, .int .i64 65536] 68 none
   (.done (.sym 68)))
   (.done (.sym 65)))))))
def c47k3 : VC := ⟨⟨[], []⟩, [(55, [none])], []⟩
def t47k3 : VT :=
 (.lt (.bin .rem 2 false false) [.sym 64, .int .i64 4294967296] 65 none
 (.lt (.bin .lss 2 false true) [.sym 65, .int .i64 0] 66 none
 (.ite 66
  (.lt (.bin .add 2 false false) [.sym 65, .int .i64 4294967296] 67 none
  (.lt (.bin .geq 2 false false) [.sym 67, .int .i64 2147483648] 68 none
  (.ite 68
   (.lt (.bin .sub 2 false false) [.sym 67, .int .i64 4294967296] 69 none
   (.done (.sym 69)))
   (.done (.sym 67)))))
  (.lt (.bin .geq 2 false false) [.sym 65, .int .i64 2147483648] 67 none
  (.ite 67
   (.lt (.bin .sub 2 false false) [.sym 65, .int .i64 4294967296] 68 none
   (.done (.sym 68)))
   (.done (.sym 65)))))))
def c47k4 : VC := ⟨⟨[], []⟩, [(55, [none])], []⟩
def t47k4 : VT :=
 (.done (.sym 64))
theorem tmod_lt (x n : Int) (hn : 0 < n) : - n < x.tmod n ∧ x.tmod n < n := by
  refine ⟨?_, Int.tmod_lt_of_pos x hn⟩
  have := Int.tmod_lt_of_pos (-x) hn
  rw [Int.neg_tmod] at this
  omega
theorem p47k1 (x : Int) : Pure Tryd.prog 47 [.int .i64 1, .int .i64 x] (.int .i64 (truthF (!decide (x = 0)))) := by
  refine pure_pat (args' := [.int .i64 1, .sym 64]) (ls := [.int .i64 x]) (c := c47k1) (n := 300) (t := t47k1) mo ov rfl rfl rfl rfl (fun Y _ => rfl) (fun Y _ => known0 _) rfl (by kernel_rfl) fun Y hf hg => ?_
  unfold t47k1
  exact VOK_lt (run_neq ..) rfl (VOK_call (p55 _) rfl rfl (VOK_done rfl))
theorem p47k4 (x : Int) : Pure Tryd.prog 47 [.int .i64 4, .int .i64 x] (.int .i64 x) := by
  refine pure_pat (args' := [.int .i64 4, .sym 64]) (ls := [.int .i64 x]) (c := c47k4) (n := 300) (t := t47k4) mo ov rfl rfl rfl rfl (fun Y _ => rfl) (fun Y _ => known0 _) rfl (by kernel_rfl) fun Y hf hg => ?_
  unfold t47k4
  exact VOK_done rfl
theorem p47k2 (x : Int) : Pure Tryd.prog 47 [.int .i64 2, .int .i64 x] (.int .i64 (wrapR 65536 x)) := by
  have hb := tmod_lt x 65536 (by omega)
  refine pure_pat (args' := [.int .i64 2, .sym 64]) (ls := [.int .i64 x]) (c := c47k2) (n := 300) (t := t47k2) mo ov rfl rfl rfl rfl (fun Y _ => rfl) (fun Y _ => known0 _) rfl (by kernel_rfl) fun Y hf hg => ?_
  unfold t47k2
  have hr := remI (t := 2) (cx := false) (cy := false) x 65536 (by omega)
  unfold wrapR
  generalize x.tmod 65536 = r at *
  refine VOK_lt hr rfl ?_
  repeat' (first
    | refine VOK_lt (run_lss ..) rfl ?_
    | refine VOK_lt (run_geq ..) rfl ?_
    | refine VOK_lt (run_add ..) rfl ?_
    | refine VOK_lt (run_sub ..) rfl ?_
    | refine VOK_ite rfl (fun h => ?_) (fun h => ?_)
    | refine VOK_done ?_)
  all_goals (simp only [decide_eq_true_eq, decide_eq_false_iff_not] at *)
  all_goals (try rw [wrap64 (x := r + 65536) (by omega) (by omega)] at *)
  all_goals
    (show AV.int .i64 _ = AV.int .i64 _
     congr 1
     repeat' split
     all_goals first
       | (exfalso; omega)
       | rfl
       | (rw [wrap64 (x := r + 65536 - 65536) (by omega) (by omega)])
       | (rw [wrap64 (x := r - 65536) (by omega) (by omega)])
       | omega)
theorem p47k3 (x : Int) : Pure Tryd.prog 47 [.int .i64 3, .int .i64 x] (.int .i64 (wrapR 4294967296 x)) := by
  have hb := tmod_lt x 4294967296 (by omega)
  refine pure_pat (args' := [.int .i64 3, .sym 64]) (ls := [.int .i64 x]) (c := c47k3) (n := 300) (t := t47k3) mo ov rfl rfl rfl rfl (fun Y _ => rfl) (fun Y _ => known0 _) rfl (by kernel_rfl) fun Y hf hg => ?_
  unfold t47k3
  have hr := remI (t := 2) (cx := false) (cy := false) x 4294967296 (by omega)
  unfold wrapR
  generalize x.tmod 4294967296 = r at *
  refine VOK_lt hr rfl ?_
  repeat' (first
    | refine VOK_lt (run_lss ..) rfl ?_
    | refine VOK_lt (run_geq ..) rfl ?_
    | refine VOK_lt (run_add ..) rfl ?_
    | refine VOK_lt (run_sub ..) rfl ?_
    | refine VOK_ite rfl (fun h => ?_) (fun h => ?_)
    | refine VOK_done ?_)
  all_goals (simp only [decide_eq_true_eq, decide_eq_false_iff_not] at *)
  all_goals (try rw [wrap64 (x := r + 4294967296) (by omega) (by omega)] at *)
  all_goals
    (show AV.int .i64 _ = AV.int .i64 _
     congr 1
     repeat' split
     all_goals first
       | (exfalso; omega)
       | rfl
       | (rw [wrap64 (x := r + 4294967296 - 4294967296) (by omega) (by omega)])
       | (rw [wrap64 (x := r - 4294967296) (by omega) (by omega)])
       | omega)
end Go.Proofs.YtbceomdmpbmnkaaDoor.vars
/-
  Which variables may be, by the document: values, names, variables.
-/
set_option maxRecDepth 100000
set_option linter.unusedVariables false
set_option linter.unusedSimpArgs false
namespace Go.Proofs.YtbceomdmpbmnkaaDoor.vars
open Go Go.Sx
def wrapK (k x : Int) : Int := if k = 1 then truthF (!decide (x = 0)) else if k = 2 then wrapR 65536 x else if k = 3 then wrapR 4294967296 x else x
theorem p47 (k x : Int) (h1 : 1 ≤ k) (h2 : k ≤ 4) : Pure Tryd.prog 47 [.int .i64 k, .int .i64 x] (.int .i64 (wrapK k x)) := by
  rcases (by omega : k = 1 ∨ k = 2 ∨ k = 3 ∨ k = 4) with rfl | rfl | rfl | rfl
  · exact p47k1 x
  · exact p47k2 x
  · exact p47k3 x
  · exact p47k4 x
theorem wrapR_eq (n h x : Int) (hn : n = 2 * h) (hh : 0 < h) : wrapR n x = x ↔ - h ≤ x ∧ x < h := by
  have h1 := tmod_lt x n (by omega)
  have h2 := Int.tmod_add_mul_tdiv x n
  have h3 : 0 ≤ x → 0 ≤ x.tmod n := fun h => Int.tmod_nonneg n h
  have h4 : x ≤ 0 → x.tmod n ≤ 0 := fun h => by
    have := Int.tmod_nonneg n (a := -x) (by omega)
    rw [Int.neg_tmod] at this
    omega
  have hd : n / 2 = h := by omega
  have h5 : 0 ≤ x → x < n → x.tmod n = x := fun a b => Int.tmod_eq_of_lt a b
  have h6 : x ≤ 0 → - n < x → x.tmod n = x := fun a b => by
    have := Int.tmod_eq_of_lt (a := -x) (b := n) (by omega) (by omega)
    rw [Int.neg_tmod] at this
    omega
  unfold wrapR
  rw [hd]
  constructor
  · intro e
    repeat' (split at e)
    all_goals omega
  · intro ⟨a, b⟩
    have e : x.tmod n = x := by
      rcases Int.le_total 0 x with h0 | h0
      · exact h5 h0 (by omega)
      · exact h6 h0 (by omega)
    rw [e]
    repeat' split
    all_goals omega
theorem w16 (x : Int) : (x = IntKind.i64.wrap (IntKind.i16.wrap x)) ↔ -32768 ≤ x ∧ x < 32768 := by
  simp [IntKind.wrap, IntKind.bits, IntKind.signed]; omega
theorem w32 (x : Int) : (x = IntKind.i64.wrap (IntKind.i32.wrap x)) ↔ -2147483648 ≤ x ∧ x < 2147483648 := by
  simp [IntKind.wrap, IntKind.bits, IntKind.signed]; omega
def c39 : VC := ⟨⟨[], []⟩, [(46, [none]), (22, [none]), (47, [none])], []⟩
def t39 : VT :=
 (.lt (.bin .eql 3 false true) [.sym 64, .int .i64 5] 67 none
 (.ite 67
  (.lt (.bin .eql 2 false true) [.sym 65, .int .i64 0] 68 none
  (.done (.sym 68)))
  (.call 22 [.sym 64] 68 [none]
  (.lt (.bin .eql 3 false true) [.sym 68, .int .i64 1] 69 none
  (.ite 69
   (.call 46 [.sym 66] 70 [none]
   (.lt (.bin .eql 77 false true) [.sym 70, .int .u64 0] 71 none
   (.ite 71
    (.call 47 [.sym 64, .sym 65] 72 [none]
    (.lt (.bin .eql 2 false false) [.sym 72, .sym 65] 73 none
    (.done (.sym 73))))
    (.done (.bool false)))))
   (.done (.bool false)))))))
theorem may_wrap (v : GVal) (h1 : 1 ≤ v.kind) (h4 : v.kind ≤ 4) (hf : v.f = 0) : mayVal v = decide (wrapK v.kind v.i = v.i) := by
  obtain ⟨k, i, f⟩ := v
  simp only at h1 h4 hf
  subst hf
  unfold mayVal wrapK
  simp only
  rcases (by omega : k = 1 ∨ k = 2 ∨ k = 3 ∨ k = 4) with rfl | rfl | rfl | rfl
  · by_cases h0 : i = 0
    · subst h0; rfl
    · simp only [h0, decide_false, Bool.not_false]
      show decide (i = 1) = decide ((1 : Int) = i)
      congr 1
      exact propext ⟨fun h => h.symm, fun h => h.symm⟩
  · have e := wrapR_eq 65536 32768 i rfl (by omega)
    have e' := w16 i
    show decide (i = IntKind.i64.wrap (IntKind.i16.wrap i)) = decide (wrapR 65536 i = i)
    congr 1
    exact propext (e'.trans e.symm)
  · have e := wrapR_eq 4294967296 2147483648 i rfl (by omega)
    have e' := w32 i
    show decide (i = IntKind.i64.wrap (IntKind.i32.wrap i)) = decide (wrapR 4294967296 i = i)
    congr 1
    exact propext (e'.trans e.symm)
  · show decide ((4 : Int) = 4) = decide (i = i)
    simp
theorem p39 (v : GVal) : Pure Tryd.prog 39 [.agg (encVal v)] (.bool (mayVal v)) := by
  refine pure_shape (sh := [some 3]) (ls := encVal v) (c := c39) (n := 300) (t := t39) mo ov rfl rfl rfl (fun Y _ => known0 _) rfl (by kernel_rfl) fun Y hf hg => ?_
  unfold t39
  refine VOK_lt (run_eql ..) rfl (VOK_ite rfl (fun h5 => VOK_lt (run_eql ..) rfl (VOK_done ?_)) (fun h5 => VOK_call (p22 v.kind) rfl rfl (VOK_lt (run_eql ..) rfl (VOK_ite rfl (fun hw => ?_) (fun hw => VOK_done ?_)))))
  · show AV.bool _ = _
    have h5 : v.kind = 5 := by simpa using h5
    simp [mayVal, h5]
  · have h5 : ¬ v.kind = 5 := by simpa using h5
    have hv : isValue v.kind = true := (value_one v.kind).2 (by simpa using hw)
    unfold isValue at hv
    simp only [Bool.and_eq_true, decide_eq_true_eq] at hv
    refine VOK_call (p46 v.f) rfl rfl (VOK_lt (run_eql ..) rfl (VOK_ite rfl (fun h0 => ?_) (fun h0 => VOK_done ?_)))
    · have h0 : v.f = 0 := (bitsF_0 v.f).1 (by simpa using h0)
      refine VOK_call (p47 v.kind v.i hv.1 (by omega)) rfl rfl (VOK_lt (run_eql ..) rfl (VOK_done ?_))
      rw [may_wrap v hv.1 (by omega) h0]; rfl
    · have h0 : ¬ v.f = 0 := fun e => by rw [(bitsF_0 v.f).2 e] at h0; simp at h0
      show AV.bool _ = _
      simp [mayVal, h5, h0]
  · show AV.bool _ = _
    have hw : ¬ ((cellsOf v.kind).length : Int) = 1 := by simpa using hw
    have hv : ¬ isValue v.kind = true := fun h => hw ((value_one v.kind).1 h)
    unfold isValue at hv
    simp only [Bool.and_eq_true, decide_eq_true_eq] at hv
    unfold mayVal
    repeat' split
    all_goals first
      | (exfalso; omega)
      | rfl
      | (have : ¬ v.kind = 4 := by omega
         simp [this])
def c37 : VC := ⟨⟨[], []⟩, [(0, [none])], [(0, [⟨[(3, .slx 0 0 0), (0, .sym 64)], [], 0, 1, [], []⟩])]⟩
def t37 : VT :=
 (.loop 65 0 [.int .i64 0]
  (.cons 1
  (.lt (.len 9) [.sym 64] 66 none
  (.lt (.bin .lss 3 false false) [.sym 65, .sym 66] 67 none
  (.ite 67
   (.lt (.idx 9) [.sym 64, .sym 65] 68 none
   (.lt (.bin .geq 5 false true) [.sym 68, .int .u8 97] 69 none
   (.ite 69
    (.lt (.idx 9) [.sym 64, .sym 65] 70 none
    (.lt (.bin .leq 5 false true) [.sym 70, .int .u8 122] 71 none
    (.lt (.un .not) [.sym 71] 72 none
    (.ite 72
     (.lt (.bin .eql 3 false true) [.sym 65, .int .i64 0] 73 none
     (.ite 73
      (.done (.bool false))
      (.lt (.idx 9) [.sym 64, .sym 65] 74 none
      (.lt (.bin .lss 5 false true) [.sym 74, .int .u8 48] 75 none
      (.ite 75
       (.done (.bool false))
       (.lt (.idx 9) [.sym 64, .sym 65] 76 none
       (.lt (.bin .gtr 5 false true) [.sym 76, .int .u8 57] 77 none
       (.ite 77
        (.done (.bool false))
        (.lt (.bin .add 3 false true) [.sym 65, .int .i64 1] 78 none
        (.again 0 0 [.sym 78]))))))))))
     (.lt (.bin .add 3 false true) [.sym 65, .int .i64 1] 73 none
     (.again 0 0 [.sym 73]))))))
    (.lt (.bin .eql 3 false true) [.sym 65, .int .i64 0] 70 none
    (.ite 70
     (.done (.bool false))
     (.lt (.idx 9) [.sym 64, .sym 65] 71 none
     (.lt (.bin .lss 5 false true) [.sym 71, .int .u8 48] 72 none
     (.ite 72
      (.done (.bool false))
      (.lt (.idx 9) [.sym 64, .sym 65] 73 none
      (.lt (.bin .gtr 5 false true) [.sym 73, .int .u8 57] 74 none
      (.ite 74
       (.done (.bool false))
       (.lt (.bin .add 3 false true) [.sym 65, .int .i64 1] 75 none
       (.again 0 0 [.sym 75])))))))))))))
   (.lt (.len 9) [.sym 64] 68 none
   (.lt (.bin .geq 3 false true) [.sym 68, .int .i64 1] 69 none
   (.ite 69
    (.lt (.len 9) [.sym 64] 70 none
    (.lt (.bin .leq 3 false true) [.sym 70, .int .i64 8] 71 none
    (.done (.sym 71))))
    (.done (.bool false))))))))
  .nil))
theorem p37 (s : List UInt8) (hs : s.length < 9223372036854775808) : Pure Tryd.prog 37 [.str s] (.bool (nameOk s)) := by
  refine pure_shape (sh := [none]) (ls := [.str s]) (c := c37) (n := 300) (t := t37) mo ov rfl rfl rfl (fun Y _ => known0 _) rfl (by kernel_rfl) fun Y hf hg => ?_
  unfold t37
  refine VOK_loop (ι := Nat) (fun n => [.int .i64 n]) (fun n => n ≤ s.length ∧ chars true s = chars (decide (n = 0)) (s.drop n)) (fun n => s.length - n) 0 ⟨Nat.zero_le _, rfl⟩ rfl (fun _ _ => rfl) (fun i j _ _ h => ?_) (fun n hn => ?_)
  · simp at h; have h : i = j := by omega
    rw [h]
  obtain ⟨hn, hc⟩ := hn
  refine VOK_lt (run_len_str str9 s) rfl (VOK_lt (run_lss ..) rfl (VOK_ite rfl (fun hlt => ?_) (fun hlt => ?_)))
  · have hlt : n < s.length := by simp only [decide_eq_true_eq] at hlt; omega
    have hx := chars_at s n hlt
    have hw : IntKind.i64.wrap ((n : Int) + 1) = ((n + 1 : Nat) : Int) := by rw [wrap64 (by omega) (by omega)]; rfl
    have hno : okCh (decide (n = 0)) s[n] = false → AV.bool false = AV.bool (nameOk s) := fun h => by unfold nameOk; rw [hc, hx, h]; simp
    have ag : okCh (decide (n = 0)) s[n] = true → chars true s = chars (decide (n + 1 = 0)) (s.drop (n + 1)) := fun h => by rw [hc, hx, h]; simp
    repeat' (first
      | refine VOK_lt (run_idx_str str9 s .i64 n hlt) rfl ?_
      | refine VOK_lt (run_geq ..) rfl ?_
      | refine VOK_lt (run_leq ..) rfl ?_
      | refine VOK_lt (run_lss ..) rfl ?_
      | refine VOK_lt (run_gtr ..) rfl ?_
      | refine VOK_lt (run_eql ..) rfl ?_
      | refine VOK_lt (run_not ..) rfl ?_
      | refine VOK_lt (run_add ..) rfl ?_
      | refine VOK_ite rfl (fun h => ?_) (fun h => ?_)
      | refine VOK_again rfl ⟨n + 1, ⟨by omega, ?_⟩, ?_, by omega⟩
      | refine VOK_done ?_)
    all_goals (simp only [decide_eq_true_eq, decide_eq_false_iff_not, Bool.not_eq_true', Bool.not_eq_false'] at *)
    all_goals first
      | exact congrArg (fun x => [AV.int .i64 x]) hw
      | (refine hno ?_; simp [okCh]; omega)
      | (refine ag ?_; simp [okCh]; omega)
  · have he : n = s.length := by simp only [decide_eq_false_iff_not] at hlt; omega
    have hall : chars true s = true := by
      rw [hc, he, List.drop_length]
      cases s <;> rfl
    refine VOK_lt (run_len_str str9 s) rfl (VOK_lt (run_geq ..) rfl (VOK_ite rfl (fun h1 => VOK_lt (run_len_str str9 s) rfl (VOK_lt (run_leq ..) rfl (VOK_done ?_))) (fun h1 => VOK_done ?_)))
    · have h1 : 1 ≤ s.length := by simp only [decide_eq_true_eq] at h1; omega
      show AV.bool (decide ((s.length : Int) ≤ 8)) = _
      have e8 : decide ((s.length : Int) ≤ 8) = decide (s.length ≤ 8) := decide_eq_decide.2 (by omega)
      rw [e8]
      simp [nameOk, hall, h1]
    · have h1 : ¬ 1 ≤ s.length := by simp only [decide_eq_false_iff_not] at h1; omega
      show AV.bool false = _
      have h1' : s.length = 0 := by omega
      simp [nameOk, h1']
theorem block_of {k : Int} (h : ¬ ((cellsOf k).length : Int) = 1) : isValue k = false := by
  cases hx : isValue k with
  | false => rfl
  | true => exact absurd ((value_one k).1 hx) h
theorem value_of {k : Int} (h : ((cellsOf k).length : Int) = 1) : isValue k = true := (value_one k).2 h
def c33 : VC := ⟨⟨[], []⟩, [(37, [none]), (38, [none]), (39, [none]), (22, [none])], []⟩
def t33 : VT :=
 (.call 37 [.sym 64] 74 [none]
 (.lt (.un .not) [.sym 74] 75 none
 (.ite 75
  (.done (.bool false))
  (.lt (.bin .lss 3 false true) [.sym 65, .int .i64 1] 76 none
  (.ite 76
   (.done (.bool false))
   (.lt (.bin .gtr 3 false true) [.sym 65, .int .i64 3] 77 none
   (.ite 77
    (.done (.bool false))
    (.call 22 [.sym 66] 78 [none]
    (.lt (.bin .eql 3 false true) [.sym 78, .int .i64 0] 79 none
    (.ite 79
     (.done (.bool false))
     (.lt (.bin .lss 3 false true) [.sym 67, .int .i64 0] 80 none
     (.ite 80
      (.done (.bool false))
      (.lt (.bin .gtr 3 false true) [.sym 67, .int .i64 8] 81 none
      (.ite 81
       (.done (.bool false))
       (.call 22 [.sym 66] 82 [none]
       (.lt (.bin .gtr 3 false true) [.sym 82, .int .i64 1] 83 none
       (.ite 83
        (.lt (.bin .eql 3 false true) [.sym 67, .int .i64 0] 84 none
        (.ite 84
         (.lt (.bin .eql 3 false true) [.sym 65, .int .i64 3] 85 none
         (.ite 85
          (.call 38 [.agg [.sym 68, .sym 69, .sym 70]] 86 [none]
          (.ite 86
           (.call 38 [.agg [.sym 71, .sym 72, .sym 73]] 87 [none]
           (.done (.sym 87)))
           (.done (.bool false))))
          (.done (.bool false))))
         (.done (.bool false))))
        (.call 39 [.agg [.sym 68, .sym 69, .sym 70]] 84 [none]
        (.lt (.un .not) [.sym 84] 85 none
        (.ite 85
         (.done (.bool false))
         (.lt (.bin .neq 3 false false) [.sym 68, .sym 66] 86 none
         (.ite 86
          (.done (.bool false))
          (.lt (.bin .neq 3 false true) [.sym 65, .int .i64 2] 87 none
          (.ite 87
           (.call 38 [.agg [.sym 71, .sym 72, .sym 73]] 88 [none]
           (.done (.sym 88)))
           (.call 39 [.agg [.sym 71, .sym 72, .sym 73]] 88 [none]
           (.ite 88
            (.lt (.bin .eql 3 false false) [.sym 71, .sym 66] 89 none
            (.done (.sym 89)))
            (.done (.bool false))))))))))))))))))))))))))))
theorem p33 (v : GVar) (hv : Plain v) : Pure Tryd.prog 33 [.agg (encVar v)] (.bool (mayVar v)) := by
  have hone := value_one v.kind
  refine pure_shape (sh := [some 10]) (ls := encVar v) (c := c33) (n := 300) (t := t33) mo ov rfl rfl rfl (fun Y _ => known0 _) rfl (by kernel_rfl) fun Y hf hg => ?_
  unfold t33
  repeat' (first
    | refine VOK_call (p37 v.name hv.2.2) rfl rfl ?_
    | refine VOK_call (p22 v.kind) rfl rfl ?_
    | refine VOK_call (p38 v.first) rfl rfl ?_
    | refine VOK_call (p38 v.safe) rfl rfl ?_
    | refine VOK_call (p39 v.first) rfl rfl ?_
    | refine VOK_call (p39 v.safe) rfl rfl ?_
    | refine VOK_lt (run_lss ..) rfl ?_
    | refine VOK_lt (run_gtr ..) rfl ?_
    | refine VOK_lt (run_eql ..) rfl ?_
    | refine VOK_lt (run_neq ..) rfl ?_
    | refine VOK_lt (run_not ..) rfl ?_
    | refine VOK_ite rfl (fun h => ?_) (fun h => ?_)
    | refine VOK_done ?_)
  all_goals (simp only [decide_eq_true_eq, decide_eq_false_iff_not, Bool.not_eq_true', Bool.not_eq_false'] at *)
  all_goals (try have hkind := block_of (k := v.kind) (by omega))
  all_goals (try have hkind := value_of (k := v.kind) (by omega))
  all_goals first
    | contradiction
    | (show AV.bool _ = _; unfold mayVar; simp only [*, if_true, if_false, reduceIte, Bool.false_eq_true, Bool.true_eq_false, reduceCtorEq]; done)
    | (show AV.bool _ = _; unfold mayVar; simp only [*, if_true, if_false, reduceIte, Bool.false_eq_true, Bool.true_eq_false, reduceCtorEq]; rfl)
    | (show AV.bool _ = _; unfold mayVar ofKind; simp [*]; done)
    | (show AV.bool (nought v.safe) = _
       cases hn : nought v.safe
       all_goals (unfold mayVar ofKind; simp only [*, if_true, if_false, reduceIte, Bool.false_eq_true, Bool.true_eq_false, reduceCtorEq, decide_true, decide_false, Bool.and_self, Bool.true_and, Bool.false_and, eq_self]; done))
    | (rename_i hs hn r1 r3 c0 s0 s8 cw hm hk
       show AV.bool (decide (v.safe.kind = v.kind)) = _
       have e : mayVar v = if ofKind v.safe v.kind = true then ofKind v.first v.kind else false := by
         unfold mayVar
         rw [if_neg (by rw [hn]; simp), if_neg r1, if_neg r3, if_neg c0, if_neg s0, if_neg s8, if_neg (by rw [hkind]; simp), if_pos h]
       rw [e]
       unfold ofKind
       rw [hs, hm, hk]
       by_cases hsk : v.safe.kind = v.kind
       · rw [hsk]; simp
       · simp [hsk])
end Go.Proofs.YtbceomdmpbmnkaaDoor.vars
/-
  What the document's functions come to, each by its tree: MayVars, Addrs, First.
-/
set_option maxRecDepth 100000
set_option linter.unusedVariables false
set_option linter.unusedSimpArgs false
namespace Go.Proofs.YtbceomdmpbmnkaaDoor.vars
open Go Go.Sx
/-- variables that may be -/
structure Own (l : List GVar) : Prop where
  may : mayE l = 0
  all : l.all mayVar = true
  le : l.length ≤ 12
  plain : ∀ v ∈ l, Plain v
theorem Own.sum {l : List GVar} (h : Own l) : sumW l 0 = ((firstF l).length : Int) := by
  have := sumW_tot l 0 h.all (by have := h.le; omega)
  simpa using this
theorem Own.sumT {l : List GVar} (h : Own l) (i : Nat) : sumW (l.take i) 0 = ((firstF (l.take i)).length : Int) := by
  have := sumW_tot (l.take i) 0 (all_take h.all i) (by rw [List.length_take]; have := h.le; omega)
  simpa using this
theorem Own.le64 {l : List GVar} (h : Own l) : sumW l 0 ≤ 64 := (may_all h.may).2.2.1
theorem own_sub {a : List GVar} (h : a.Sublist playV) : Own a := by
  obtain ⟨h1, h2, h3⟩ := play_may h
  exact ⟨h1, (may_all h1).1, h2, h3⟩
theorem own_of {l : List GVar} (h : mayE l = 0) (hz : ∀ v ∈ l, Plain v) : Own l := by
  obtain ⟨h1, h2, _, _⟩ := may_all h
  exact ⟨h, h1, h2, hz⟩
theorem keys_le : ∀ (l : List GVar) (ks : List (List UInt8)), (keysOf l ks).length ≤ ks.length + l.length
  | [], ks => by simp [keysOf]
  | v :: r, ks => by
    have := keys_le r (addKey ks v.name)
    simp only [keysOf, List.length_cons]
    unfold addKey at this ⊢
    split at this
    · rename_i h; rw [if_pos h]; omega
    · rename_i h; rw [if_neg h]; simp only [List.length_append, List.length_cons, List.length_nil] at this; omega
theorem keys_lt : ∀ (l : List GVar) (ks : List (List UInt8)), (¬ (l.map GVar.name).Nodup ∨ ∃ v, v ∈ l ∧ v.name ∈ ks) → (keysOf l ks).length < ks.length + l.length
  | [], ks, h => by
    rcases h with h | ⟨v, hv, _⟩
    · exact absurd List.nodup_nil h
    · cases hv
  | v :: r, ks, h => by
    simp only [keysOf, List.length_cons]
    by_cases hm : v.name ∈ ks
    · have := keys_le r ks
      unfold addKey
      rw [if_pos hm]; omega
    · have e : addKey ks v.name = ks ++ [v.name] := by unfold addKey; rw [if_neg hm]
      rw [e]
      have := keys_lt r (ks ++ [v.name]) (by
        rcases h with h | ⟨u, hu, hk⟩
        · rw [List.map_cons, List.nodup_cons] at h
          by_cases hv : v.name ∈ r.map GVar.name
          · obtain ⟨u, hu, e⟩ := List.mem_map.1 hv
            exact .inr ⟨u, hu, by rw [e]; simp⟩
          · exact .inl fun hn => h ⟨hv, hn⟩
        · rcases List.mem_cons.1 hu with rfl | hu
          · exact absurd hk hm
          · exact .inr ⟨u, hu, List.mem_append_left _ hk⟩)
      simp only [List.length_append, List.length_cons, List.length_nil] at this
      omega
theorem fa39_0 (v : GVar) (r : List AV) : (XOp.faddr 39 0).run Tryd.prog [.vptr (encVar v ++ r)] = some (.vptr (.str v.name :: ([.int .i64 v.role, .int .i64 v.kind, .int .i64 v.size, .int .i64 v.first.kind, .int .i64 v.first.i, .flt .f64 v.first.f, .int .i64 v.safe.kind, .int .i64 v.safe.i, .flt .f64 v.safe.f] ++ r))) := by kernel_rfl
theorem fa39_2 (v : GVar) (r : List AV) : (XOp.faddr 39 2).run Tryd.prog [.vptr (encVar v ++ r)] = some (.vptr (.int .i64 v.kind :: ([.int .i64 v.size, .int .i64 v.first.kind, .int .i64 v.first.i, .flt .f64 v.first.f, .int .i64 v.safe.kind, .int .i64 v.safe.i, .flt .f64 v.safe.f] ++ r))) := by kernel_rfl
theorem fa39_4 (v : GVar) (r : List AV) : (XOp.faddr 39 4).run Tryd.prog [.vptr (encVar v ++ r)] = some (.vptr (encVal v.first ++ ([.int .i64 v.safe.kind, .int .i64 v.safe.i, .flt .f64 v.safe.f] ++ r))) := by kernel_rfl
theorem ia22' {l : List GVar} {i : Nat} (h : i < l.length) : (XOp.iaddr 22).run Tryd.prog [vrs l, .int .i64 (i : Int)] = some (.vptr (encVar l[i] ++ encL encVar (l.drop (i + 1)))) := by
  have := ia22 h
  rw [List.drop_eq_getElem_cons h] at this
  exact this
theorem ld9x (x : AV) (r : List AV) : (XOp.load 9).run Tryd.prog [.vptr (x :: r)] = some x := run_load_one Tryd.underlying9 rfl x r
theorem ld3 (x : AV) (r : List AV) : (XOp.load 3).run Tryd.prog [.vptr (x :: r)] = some x := run_load_one Tryd.underlying3 rfl x r
theorem ld37 (v : GVal) (r : List AV) : (XOp.load 37).run Tryd.prog [.vptr (encVal v ++ r)] = some (.agg (encVal v)) := by kernel_rfl
theorem okRow {α : Type} {enc : α → List AV} (h : ∀ a, okL (enc a) = true) (a : α) (l : List α) : okL (enc a ++ encL enc l) = true := encL_ok h (a :: l)
theorem okTail {α : Type} {enc : α → List AV} (h : ∀ a, okL (enc a) = true) (l : List α) (p : List AV) (hp : okL p = true) : okL (p ++ encL enc l) = true := by
  have := encL_ok h l
  induction p with
  | nil => exact this
  | cons a r ih =>
    rw [okL_cons] at hp
    obtain ⟨k1, k2⟩ := and_split hp
    rw [List.cons_append, okL_cons, k1, ih k2]; rfl
def c26 : VC := ⟨⟨[], []⟩, [(33, [none]), (27, [none])], [(0, [⟨[(3, .slx 0 0 0), (0, .sym 64), (4, .slx 1 0 0)], [], 0, 2, [], []⟩]), (2, [⟨[(5, .slx 0 0 0), (0, .sym 64)], [], 0, 1, [], []⟩]), (4, [⟨[(6, .slx 0 0 0), (0, .sym 64), (5, .sym 72)], [], 0, 1, [], []⟩])]⟩
def t26 : VT :=
 (.lt (.len 22) [.sym 64] 65 none
 (.lt (.bin .gtr 3 false true) [.sym 65, .int .i64 12] 66 none
 (.ite 66
  (.done (.int .i64 1))
  (.loop 67 0 [.int .i64 0, .int .i64 0]
   (.cons 2
   (.lt (.len 22) [.sym 64] 69 none
   (.lt (.bin .lss 3 false false) [.sym 68, .sym 69] 70 none
   (.ite 70
    (.lt (.iaddr 22) [.sym 64, .sym 68] 71 none
    (.lt (.load 39) [.sym 71] 72 (some 10)
    (.call 33 [.agg [.sym 72, .sym 73, .sym 74, .sym 75, .sym 76, .sym 77, .sym 78, .sym 79, .sym 80, .sym 81]] 82 [none]
    (.lt (.un .not) [.sym 82] 83 none
    (.ite 83
     (.done (.int .i64 1))
     (.lt (.iaddr 22) [.sym 64, .sym 68] 84 none
     (.lt (.load 39) [.sym 84] 85 (some 10)
     (.call 27 [.agg [.sym 85, .sym 86, .sym 87, .sym 88, .sym 89, .sym 90, .sym 91, .sym 92, .sym 93, .sym 94]] 95 [none]
     (.lt (.bin .add 3 false false) [.sym 67, .sym 95] 96 none
     (.lt (.bin .add 3 false true) [.sym 68, .int .i64 1] 97 none
     (.again 0 0 [.sym 96, .sym 97])))))))))))
    (.lt (.bin .gtr 3 false true) [.sym 67, .int .i64 64] 71 none
    (.ite 71
     (.done (.int .i64 1))
     (.loop 72 0 [.int .i64 0]
      (.cons 1
      (.lt (.len 22) [.sym 64] 73 none
      (.lt (.bin .lss 3 false false) [.sym 72, .sym 73] 74 none
      (.ite 74
       (.loop 75 0 [.int .i64 0]
        (.cons 1
        (.lt (.bin .lss 3 false false) [.sym 75, .sym 72] 76 none
        (.ite 76
         (.lt (.iaddr 22) [.sym 64, .sym 72] 77 none
         (.lt (.faddr 39 0) [.sym 77] 78 none
         (.lt (.load 9) [.sym 78] 79 none
         (.lt (.iaddr 22) [.sym 64, .sym 75] 80 none
         (.lt (.faddr 39 0) [.sym 80] 81 none
         (.lt (.load 9) [.sym 81] 82 none
         (.lt (.bin .eql 9 false false) [.sym 79, .sym 82] 83 none
         (.ite 83
          (.done (.int .i64 3))
          (.lt (.bin .add 3 false true) [.sym 75, .int .i64 1] 84 none
          (.again 2 0 [.sym 84]))))))))))
         (.lt (.bin .add 3 false true) [.sym 72, .int .i64 1] 77 none
         (.again 1 0 [.sym 77]))))
        .nil))
       (.done (.int .i64 0)))))
      .nil)))))))
   .nil)))))
theorem p26 (l : List GVar) (hl : l.length ≤ 1000) (hz : ∀ v ∈ l, Plain v) : Pure Tryd.prog 26 [vrs l] (.int .i64 (mayE l)) := by
  refine pure_shape (sh := [none]) (ls := [vrs l]) (c := c26) (n := 300) (t := t26) mo ov rfl (okC1 (okVrs l)) rfl (fun Y _ => known0 _) rfl (by kernel_rfl) fun Y hf hg => ?_
  unfold t26
  refine VOK_lt (len22 l) rfl (VOK_lt (run_gtr ..) rfl (VOK_ite rfl (fun h => VOK_done ?_) (fun h12 => ?_)))
  · show AV.int .i64 1 = _
    have h : 12 < l.length := by simp only [decide_eq_true_eq] at h; omega
    simp only [mayE, h, or_true, if_true]
  have h12 : l.length ≤ 12 := by simp only [decide_eq_false_iff_not] at h12; omega
  have h12' : ¬ 12 < l.length := by omega
  refine VOK_loop (ι := Nat) (fun i => [.int .i64 (sumW (l.take i) 0), .int .i64 i]) (fun i => i ≤ l.length ∧ (l.take i).all mayVar = true) (fun i => l.length - i) 0 ⟨Nat.zero_le _, rfl⟩ rfl
    (fun i _ => rfl) (fun i j _ _ h => ?_) (fun i hi => ?_)
  · simp at h; have h : i = j := by omega
    rw [h]
  obtain ⟨hi, hall⟩ := hi
  refine VOK_lt (len22 l) rfl (VOK_lt (run_lss ..) rfl (VOK_ite rfl (fun hlt => ?_) (fun hlt => ?_)))
  · have hlt : i < l.length := by simp only [decide_eq_true_eq] at hlt; omega
    refine VOK_lt (ia22 hlt) (encL_ok okVar _) (VOK_ltN (ld39 hlt) rfl rfl (VOK_call (p33 l[i] (hz _ (List.getElem_mem hlt))) rfl rfl (VOK_lt (run_not ..) rfl (VOK_ite rfl (fun h => VOK_done ?_) (fun h => ?_)))))
    · show AV.int .i64 1 = _
      have hm : l.all mayVar = false := by
        rw [List.all_eq_false]
        exact ⟨l[i], List.getElem_mem hlt, by simpa using h⟩
      simp only [mayE, hm, true_or, if_true]
    have hmv : mayVar l[i] = true := by simpa using h
    refine VOK_lt (ia22 hlt) (encL_ok okVar _) (VOK_ltN (ld39 hlt) rfl rfl (VOK_call (p27 l[i] hmv) rfl rfl (VOK_lt (run_add ..) rfl (VOK_lt (run_add ..) rfl (VOK_again rfl ⟨i + 1, ⟨hlt, ?_⟩, ?_, by omega⟩)))))
    · rw [take_snoc l hlt, List.all_append, hall]; simp [hmv]
    · rw [take_snoc l hlt, sumW_snoc, ← wrapS hlt (by omega)]; rfl
  have he : i = l.length := by simp only [decide_eq_false_iff_not] at hlt; omega
  subst he
  rw [List.take_length] at hall
  have h1 : ¬ (l.all mayVar = false ∨ 12 < l.length) := by rw [hall]; simp [h12']
  refine VOK_lt (run_gtr ..) rfl (VOK_ite rfl (fun h => VOK_done ?_) (fun h64 => ?_))
  · rw [List.take_length] at h
    simp only [decide_eq_true_eq] at h
    show AV.int .i64 1 = _
    unfold mayE
    rw [if_neg h1, if_pos h]
  rw [List.take_length] at h64
  simp only [decide_eq_false_iff_not] at h64
  -- no name twice
  refine VOK_loop (ι := Nat) (fun i => [.int .i64 i]) (fun i => i ≤ l.length ∧ ((l.take i).map GVar.name).Nodup) (fun i => l.length - i) 0 ⟨Nat.zero_le _, by simp⟩ rfl
    (fun i _ => rfl) (fun i j _ _ h => ?_) (fun i hi => ?_)
  · simp at h; have h : i = j := by omega
    rw [h]
  obtain ⟨hi, hnd⟩ := hi
  refine VOK_lt (len22 l) rfl (VOK_lt (run_lss ..) rfl (VOK_ite rfl (fun hlt => ?_) (fun hlt => VOK_done ?_)))
  rotate_left
  · have he : i = l.length := by simp only [decide_eq_false_iff_not] at hlt; omega
    subst he
    rw [List.take_length] at hnd
    have hk := keys_nodup l [] hnd (fun _ _ h => by cases h)
    show AV.int .i64 0 = _
    unfold mayE
    rw [if_neg h1, if_neg h64, if_neg (by rw [hk]; simp)]
  have hlt : i < l.length := by simp only [decide_eq_true_eq] at hlt; omega
  refine VOK_loop (ι := Nat) (fun k => [.int .i64 k]) (fun k => k ≤ i ∧ ∀ q (h : q < k) (h' : q < l.length), l[q].name ≠ l[i].name) (fun k => i - k) 0 ⟨Nat.zero_le _, fun q h => absurd h (Nat.not_lt_zero _)⟩ rfl
    (fun i _ => rfl) (fun i j _ _ h => ?_) (fun k hk => ?_)
  · simp at h; have h : i = j := by omega
    rw [h]
  obtain ⟨hk, hne⟩ := hk
  refine VOK_lt (run_lss ..) rfl (VOK_ite rfl (fun hkl => ?_) (fun hkl => VOK_lt (run_add ..) rfl (VOK_again rfl ⟨i + 1, ⟨hlt, ?_⟩, ?_, by omega⟩)))
  · have hki : k < i := by simp only [decide_eq_true_eq] at hkl; omega
    have hkl : k < l.length := by omega
    refine VOK_lt (ia22' hlt) (okRow okVar l[i] _) (VOK_lt (fa39_0 ..) (encL_ok okVar (l.drop (i + 1))) (VOK_lt (ld9x ..) rfl (VOK_lt (ia22' hkl) (okRow okVar l[k] _) (VOK_lt (fa39_0 ..) (encL_ok okVar (l.drop (k + 1))) (VOK_lt (ld9x ..) rfl (VOK_lt (run_eqs ..) rfl (VOK_ite rfl (fun h => VOK_done ?_) (fun h => VOK_lt (run_add ..) rfl (VOK_again rfl ⟨k + 1, ⟨hki, fun q hq hq' => ?_⟩, ?_, by omega⟩)))))))))
    · have h : l[i].name = l[k].name := of_decide_eq_true h
      have hn : ¬ (l.map GVar.name).Nodup := fun hn => by
        have := List.pairwise_iff_getElem.1 hn k i (by simpa using hkl) (by simpa using hlt) hki
        exact this (by simp [h])
      have := keys_lt l [] (.inl hn)
      show AV.int .i64 3 = _
      unfold mayE
      rw [if_neg h1, if_neg h64, if_pos (by simpa using this)]
    · rcases (by omega : q < k ∨ q = k) with h' | rfl
      · exact hne q h' hq'
      · exact fun e => (of_decide_eq_false h) e.symm
    · rw [← wrapS hkl (by omega)]; rfl
  · have hki : k = i := by simp only [decide_eq_false_iff_not] at hkl; omega
    subst hki
    rw [take_snoc l hlt, List.map_append, List.nodup_append]
    refine ⟨hnd, by simp, fun a ha b hb => ?_⟩
    simp only [List.map_cons, List.map_nil, List.mem_cons, List.not_mem_nil, or_false] at hb
    subst hb
    obtain ⟨u, hu, rfl⟩ := List.mem_map.1 ha
    obtain ⟨q, hq⟩ := List.getElem?_of_mem hu
    rw [List.getElem?_take] at hq
    split at hq
    · rename_i hqk
      obtain ⟨hq', e⟩ := List.getElem?_eq_some_iff.1 hq
      rw [← e]
      exact hne q hqk hq'
    · cases hq
  · rw [← wrapS hlt (by omega)]; rfl
def c21 : VC := ⟨⟨[], []⟩, [(26, [none]), (27, [none])], [(0, [⟨[(6, .slx 0 0 0), (0, .sym 64), (5, .slx 1 0 0), (4, .slx 0 1 2)], [], 1, 3, [⟨0, 1, 2, 4, none⟩], []⟩])]⟩
def t21 : VT :=
 (.call 26 [.sym 64] 65 [none]
 (.lt (.bin .neq 43 false true) [.sym 65, .int .i64 0] 66 none
 (.ite 66
  (.done (.tup [.nsl, .int .i64 0]))
  (.loop 67 0 [.int .i64 0, .int .i64 0, .nsl]
   (.cons 3
   (.lt (.len 22) [.sym 64] 70 none
   (.lt (.bin .lss 3 false false) [.sym 67, .sym 70] 71 none
   (.ite 71
    (.lt (.app 1 8) [.sym 69, .agg [.sym 68]] 72 none
    (.lt (.iaddr 22) [.sym 64, .sym 67] 73 none
    (.lt (.load 39) [.sym 73] 74 (some 10)
    (.call 27 [.agg [.sym 74, .sym 75, .sym 76, .sym 77, .sym 78, .sym 79, .sym 80, .sym 81, .sym 82, .sym 83]] 84 [none]
    (.lt (.bin .add 3 false false) [.sym 68, .sym 84] 85 none
    (.lt (.bin .add 3 false true) [.sym 67, .int .i64 1] 86 none
    (.again 0 0 [.sym 86, .sym 85, .sym 72])))))))
    (.done (.tup [.sym 69, .sym 68])))))
   .nil)))))
theorem p21 (l : List GVar) (h : Own l) : Pure Tryd.prog 21 [vrs l] (.tup [ints (addrsF l 0), .int .i64 (sumW l 0)]) := by
  have h12 := h.le
  have hall := h.all
  refine pure_shape (sh := [none]) (ls := [vrs l]) (c := c21) (n := 300) (t := t21) mo ov rfl (okC1 (okVrs l)) (by simp [noRef, noRefL, okC_noRef (okInts _)]) (fun Y _ => known0 _) rfl (by kernel_rfl) fun Y hf hg => ?_
  unfold t21
  have p26' := p26 l (by omega) h.plain
  rw [h.may] at p26'
  refine VOK_call p26' rfl rfl (VOK_lt (run_neq ..) rfl (VOK_ite rfl (fun h => by cases h) (fun _ => ?_)))
  refine VOK_loop (ι := Nat) (fun i => [.int .i64 i, .int .i64 (sumW (l.take i) 0), ints (addrsF (l.take i) 0)]) (fun i => i ≤ l.length) (fun i => l.length - i) 0 (Nat.zero_le _) rfl
    (fun i _ => by simp only [okL, okC, okInts]) (fun i j _ _ h => ?_) (fun i hi => ?_)
  · simp at h; have h : i = j := by omega
    rw [h]
  refine VOK_lt (len22 l) rfl (VOK_lt (run_lss ..) rfl (VOK_ite rfl (fun hlt => ?_) (fun hlt => VOK_done ?_)))
  · have hlt : i < l.length := by simp only [decide_eq_true_eq] at hlt; omega
    have hmv : mayVar l[i] = true := by rw [List.all_eq_true] at hall; exact hall _ (List.getElem_mem hlt)
    refine VOK_lt (app1_8 _ _ (by rw [addrsF_len, List.length_take]; omega)) (okInts _) (VOK_lt (ia22 hlt) (encL_ok okVar _) (VOK_ltN (ld39 hlt) rfl rfl (VOK_call (p27 l[i] hmv) rfl rfl (VOK_lt (run_add ..) rfl (VOK_lt (run_add ..) rfl (VOK_again rfl ⟨i + 1, hlt, ?_, by omega⟩))))))
    rw [take_snoc l hlt, sumW_snoc, addrsF_snoc, ← wrapS hlt (by omega)]; rfl
  · have he : i = l.length := by simp only [decide_eq_false_iff_not] at hlt; omega
    subst he
    show AV.tup [ints (addrsF (l.take l.length) 0), .int .i64 (sumW (l.take l.length) 0)] = _
    rw [List.take_length]
def c14 : VC := ⟨⟨[], []⟩, [(26, [none]), (22, [none]), (23, [none]), (18, [(some 3)]), (27, [none])], [(0, [⟨[(4, .slx 0 0 0), (3, .slx 0 3 1), (0, .sym 64)], [], 1, 2, [⟨0, 3, 1, 3, none⟩], []⟩]), (2, [⟨[(6, .slx 0 0 0), (5, .sym 79), (3, .slx 0 3 1), (4, .sym 67), (0, .sym 64)], [], 1, 2, [⟨0, 3, 1, 3, none⟩], []⟩]), (4, [⟨[(7, .slx 0 0 0), (4, .sym 67), (0, .sym 64), (3, .slx 0 3 1)], [], 1, 2, [⟨0, 3, 1, 3, none⟩], []⟩])]⟩
def t14 : VT :=
 (.call 26 [.sym 64] 65 [none]
 (.lt (.bin .neq 43 false true) [.sym 65, .int .i64 0] 66 none
 (.ite 66
  (.done (.nsl))
  (.loop 67 0 [.int .i64 0, .nsl]
   (.cons 2
   (.lt (.len 22) [.sym 64] 69 none
   (.lt (.bin .lss 3 false false) [.sym 67, .sym 69] 70 none
   (.ite 70
    (.lt (.iaddr 22) [.sym 64, .sym 67] 71 none
    (.lt (.faddr 39 2) [.sym 71] 72 none
    (.lt (.load 3) [.sym 72] 73 none
    (.call 22 [.sym 73] 74 [none]
    (.lt (.bin .gtr 3 false true) [.sym 74, .int .i64 1] 75 none
    (.ite 75
     (.lt (.iaddr 22) [.sym 64, .sym 67] 76 none
     (.lt (.faddr 39 2) [.sym 76] 77 none
     (.lt (.load 3) [.sym 77] 78 none
     (.call 23 [.sym 78] 79 [none]
     (.loop 80 0 [.int .i64 0, .sym 68]
      (.cons 2
      (.lt (.len 49) [.sym 79] 82 none
      (.lt (.bin .lss 3 false false) [.sym 80, .sym 82] 83 none
      (.ite 83
       (.lt (.iaddr 49) [.sym 79, .sym 80] 84 none
       (.lt (.load 3) [.sym 84] 85 none
       (.call 18 [.sym 85] 86 [(some 3)]
       (.lt (.app 3 24) [.sym 81, .agg [.sym 86, .sym 87, .sym 88]] 89 none
       (.lt (.bin .add 3 false true) [.sym 80, .int .i64 1] 90 none
       (.again 1 0 [.sym 90, .sym 89]))))))
       (.lt (.bin .add 3 false true) [.sym 67, .int .i64 1] 84 none
       (.again 0 0 [.sym 84, .sym 81])))))
      .nil))))))
     (.loop 76 0 [.int .i64 0, .sym 68]
      (.cons 2
      (.lt (.iaddr 22) [.sym 64, .sym 67] 78 none
      (.lt (.load 39) [.sym 78] 79 (some 10)
      (.call 27 [.agg [.sym 79, .sym 80, .sym 81, .sym 82, .sym 83, .sym 84, .sym 85, .sym 86, .sym 87, .sym 88]] 89 [none]
      (.lt (.bin .lss 3 false false) [.sym 76, .sym 89] 90 none
      (.ite 90
       (.lt (.iaddr 22) [.sym 64, .sym 67] 91 none
       (.lt (.faddr 39 4) [.sym 91] 92 none
       (.lt (.load 37) [.sym 92] 93 (some 3)
       (.lt (.app 3 24) [.sym 77, .agg [.sym 93, .sym 94, .sym 95]] 96 none
       (.lt (.bin .add 3 false true) [.sym 76, .int .i64 1] 97 none
       (.again 1 0 [.sym 97, .sym 96]))))))
       (.lt (.bin .add 3 false true) [.sym 67, .int .i64 1] 91 none
       (.again 0 0 [.sym 91, .sym 77])))))))
      .nil))))))))
    (.done (.sym 68)))))
   .nil)))))
theorem p14 (l : List GVar) (h : Own l) : Pure Tryd.prog 14 [vrs l] (vals (firstF l)) := by
  have h12 := h.le
  have hall := h.all
  refine pure_shape (sh := [none]) (ls := [vrs l]) (c := c14) (n := 300) (t := t14) mo ov rfl (okC1 (okVrs l)) (okC_noRef (okVals _)) (fun Y _ => known0 _) rfl (by kernel_rfl) fun Y hf hg => ?_
  unfold t14
  have p26' := p26 l (by omega) h.plain
  rw [h.may] at p26'
  refine VOK_call p26' rfl rfl (VOK_lt (run_neq ..) rfl (VOK_ite rfl (fun h => by cases h) (fun _ => ?_)))
  refine VOK_loop (ι := Nat) (fun i => [.int .i64 i, vals (firstF (l.take i))]) (fun i => i ≤ l.length) (fun i => l.length - i) 0 (Nat.zero_le _) rfl
    (fun i _ => by simp only [okL, okC, okVals]) (fun i j _ _ h => ?_) (fun i hi => ?_)
  · simp at h; have h : i = j := by omega
    rw [h]
  have hfl : (firstF (l.take i)).length ≤ 8 * 12 := by
    have h1 := firstF_le (l.take i) (all_take hall i)
    have h2 : (l.take i).length ≤ 12 := by rw [List.length_take]; omega
    omega
  refine VOK_lt (len22 l) rfl (VOK_lt (run_lss ..) rfl (VOK_ite rfl (fun hlt => ?_) (fun hlt => VOK_done ?_)))
  rotate_left
  · have he : i = l.length := by simp only [decide_eq_false_iff_not] at hlt; omega
    subst he
    show vals (firstF (l.take l.length)) = _
    rw [List.take_length]
  have hlt : i < l.length := by simp only [decide_eq_true_eq] at hlt; omega
  have hmv : mayVar l[i] = true := by rw [List.all_eq_true] at hall; exact hall _ (List.getElem_mem hlt)
  obtain ⟨hs1, hs2⟩ := size_le hmv
  obtain ⟨_, hc0, _⟩ := may_facts hmv
  have hcl := cells_le l[i].kind
  refine VOK_lt (ia22' hlt) (okRow okVar l[i] _) (VOK_lt (fa39_2 ..) (encL_ok okVar (l.drop (i + 1))) (VOK_lt (ld3 ..) rfl (VOK_call (p22 l[i].kind) rfl rfl (VOK_lt (run_gtr ..) rfl (VOK_ite rfl (fun hk => ?_) (fun hk => ?_))))))
  · have hk' : 1 < (cellsOf l[i].kind).length := by simp only [decide_eq_true_eq] at hk; omega
    have hnv : isValue l[i].kind = false := by
      cases hv : isValue l[i].kind with
      | false => rfl
      | true => have := (value_one _).1 hv; omega
    have hfo : firstOf l[i] = (blockR l[i].kind).map zeroOf := by rw [blockR_eq hk']; unfold firstOf; rw [hnv]; rfl
    have hbl : (blockR l[i].kind).length ≤ 4 := by rw [blockR_eq hk']; exact hcl
    refine VOK_lt (ia22' hlt) (okRow okVar l[i] _) (VOK_lt (fa39_2 ..) (encL_ok okVar (l.drop (i + 1))) (VOK_lt (ld3 ..) rfl (VOK_call (p23 l[i].kind) rfl (okC1 (okInts _)) ?_)))
    refine VOK_loop (ι := Nat) (fun j => [.int .i64 j, vals (firstF (l.take i) ++ ((blockR l[i].kind).take j).map zeroOf)]) (fun j => j ≤ (blockR l[i].kind).length) (fun j => (blockR l[i].kind).length - j) 0 (Nat.zero_le _) (by simp only [List.take_zero, List.map_nil, List.append_nil]; rfl)
      (fun i _ => by simp only [okL, okC, okVals]) (fun i j _ _ h => ?_) (fun j hj => ?_)
    · simp at h; have h : i = j := by omega
      rw [h]
    refine VOK_lt (len49 _) rfl (VOK_lt (run_lss ..) rfl (VOK_ite rfl (fun hjl => ?_) (fun hjl => ?_)))
    · have hjl : j < (blockR l[i].kind).length := by simp only [decide_eq_true_eq] at hjl; omega
      refine VOK_lt (ia49 hjl) (encL_ok okI1 _) (VOK_lt (ld3i hjl) rfl (VOK_call (p18 (blockR l[i].kind)[j]) rfl rfl (VOK_lt (app3_24 _ _ (by rw [List.length_append, List.length_map, List.length_take]; omega)) (okVals _) (VOK_lt (run_add ..) rfl (VOK_again rfl ⟨j + 1, hjl, ?_, by omega⟩)))))
      rw [List.take_succ_eq_append_getElem hjl, List.map_append, ← wrapS hjl (by omega), ← List.append_assoc]; rfl
    · have he : j = (blockR l[i].kind).length := by simp only [decide_eq_false_iff_not] at hjl; omega
      subst he
      refine VOK_lt (run_add ..) rfl (VOK_again rfl ⟨i + 1, hlt, ?_, by omega⟩)
      rw [take_snoc l hlt, firstF_snoc, hfo, ← wrapS hlt (by omega)]
      show [AV.int .i64 _, vals (firstF (l.take i) ++ ((blockR l[i].kind).take (blockR l[i].kind).length).map zeroOf)] = _
      rw [List.take_length]
  · have hk' : (cellsOf l[i].kind).length = 1 := by simp only [decide_eq_false_iff_not] at hk; omega
    have hv : isValue l[i].kind = true := (value_one _).2 (by rw [hk']; rfl)
    have hfo : firstOf l[i] = List.replicate (sizeOf1 l[i]) l[i].first := by unfold firstOf; rw [hv]; rfl
    have hwf := wid_first hmv
    have hfl2 := firstOf_le hmv
    have hw : wid l[i] = ((sizeOf1 l[i] : Nat) : Int) := by rw [hwf, hfo, List.length_replicate]
    have hm8 : sizeOf1 l[i] ≤ 8 := by rw [hfo, List.length_replicate] at hfl2; exact hfl2
    generalize hm : sizeOf1 l[i] = m at hw hfo hm8
    refine VOK_loop (ι := Nat) (fun j => [.int .i64 j, vals (firstF (l.take i) ++ List.replicate j l[i].first)]) (fun j => j ≤ m) (fun j => m - j) 0 (Nat.zero_le _) (by simp only [List.replicate_zero, List.append_nil]; rfl)
      (fun i _ => by simp only [okL, okC, okVals]) (fun i j _ _ h => ?_) (fun j hj => ?_)
    · simp at h; have h : i = j := by omega
      rw [h]
    have p27' := p27 l[i] hmv
    rw [hw] at p27'
    refine VOK_lt (ia22 hlt) (encL_ok okVar _) (VOK_ltN (ld39 hlt) rfl rfl (VOK_call p27' rfl rfl (VOK_lt (run_lss ..) rfl (VOK_ite rfl (fun hjl => ?_) (fun hjl => ?_)))))
    · have hjl : j < m := by simp only [decide_eq_true_eq] at hjl; omega
      refine VOK_lt (ia22' hlt) (okRow okVar l[i] _) (VOK_lt (fa39_4 ..) (encL_ok okVar (l.drop (i + 1))) (VOK_ltN (ld37 ..) rfl rfl (VOK_lt (app3_24 _ _ (by rw [List.length_append, List.length_replicate]; omega)) (okVals _) (VOK_lt (run_add ..) rfl (VOK_again rfl ⟨j + 1, hjl, ?_, by omega⟩)))))
      have e : firstF (l.take i) ++ List.replicate (j + 1) l[i].first = firstF (l.take i) ++ List.replicate j l[i].first ++ [l[i].first] := by rw [List.replicate_succ', List.append_assoc]
      rw [e, ← wrapS hjl (by omega)]; rfl
    · have he : j = m := by simp only [decide_eq_false_iff_not] at hjl; omega
      subst he
      refine VOK_lt (run_add ..) rfl (VOK_again rfl ⟨i + 1, hlt, ?_, by omega⟩)
      rw [take_snoc l hlt, firstF_snoc, hfo, ← wrapS hlt (by omega)]; rfl
end Go.Proofs.YtbceomdmpbmnkaaDoor.vars
/-
  What the document's tags are, by their tree.
-/
set_option maxRecDepth 100000
set_option linter.unusedVariables false
set_option linter.unusedSimpArgs false
namespace Go.Proofs.YtbceomdmpbmnkaaDoor.vars
open Go Go.Sx
def c11 : VC := ⟨⟨[], []⟩, [(21, [none, none]), (22, [none]), (23, [none])], [(0, [⟨[(6, .slx 0 0 0), (5, .slx 0 4 1), (3, .sym 65), (0, .sym 64)], [], 1, 2, [⟨0, 4, 1, 5, none⟩], []⟩]), (3, [⟨[(9, .slx 0 0 0), (5, .slx 3 4 1), (8, .ptr 2 0), (7, .ptr 1 0), (6, .sym 67), (3, .sym 65), (0, .sym 64)], [(2, [.sym 72, .sym 83, .sym 74, .sym 73]), (1, [.sym 72, .sym 73, .sym 74, .sym 75, .sym 76, .sym 77, .sym 78, .sym 79, .sym 80, .sym 81])], 4, 2, [⟨3, 4, 1, 5, none⟩], []⟩])]⟩
def t11 : VT :=
 (.call 21 [.sym 64] 65 [none, none]
 (.loop 67 0 [.int .i64 0, .nsl]
  (.cons 2
  (.lt (.len 49) [.sym 65] 69 none
  (.lt (.bin .lss 3 false false) [.sym 67, .sym 69] 70 none
  (.ite 70
   (.lt (.iaddr 22) [.sym 64, .sym 67] 71 none
   (.lt (.load 39) [.sym 71] 72 (some 10)
   (.lt (.iaddr 49) [.sym 65, .sym 67] 82 none
   (.lt (.load 3) [.sym 82] 83 none
   (.lt (.bin .gtr 3 false true) [.sym 75, .int .i64 0] 84 none
   (.ite 84
    (.loop 85 0 [.int .i64 0, .sym 68]
     (.cons 2
     (.lt (.bin .lss 3 false false) [.sym 85, .sym 75] 87 none
     (.ite 87
      (.lt (.bin .add 9 false true) [.sym 72, .str [91]] 88 none
      (.lt (.bin .add 3 true false) [.int .i64 48, .sym 85] 89 none
      (.lt (.conv 3 5) [.sym 89] 90 none
      (.lt (.conv 53 9) [.vsl 1 1 [.sym 90]] 91 none
      (.lt (.bin .add 9 false false) [.sym 88, .sym 91] 92 none
      (.lt (.bin .add 9 false true) [.sym 92, .str [93]] 93 none
      (.lt (.bin .add 3 false false) [.sym 83, .sym 85] 94 none
      (.lt (.app 4 40) [.sym 86, .agg [.sym 93, .sym 94, .sym 74, .sym 73]] 95 none
      (.lt (.bin .add 3 false true) [.sym 85, .int .i64 1] 96 none
      (.again 1 0 [.sym 96, .sym 95]))))))))))
      (.lt (.bin .add 3 false true) [.sym 67, .int .i64 1] 88 none
      (.again 0 0 [.sym 88, .sym 86]))))
     .nil))
    (.call 22 [.sym 74] 85 [none]
    (.lt (.bin .eql 3 false true) [.sym 85, .int .i64 1] 86 none
    (.ite 86
     (.lt (.app 4 40) [.sym 68, .agg [.sym 72, .sym 83, .sym 74, .sym 73]] 87 none
     (.lt (.bin .add 3 false true) [.sym 67, .int .i64 1] 88 none
     (.again 0 0 [.sym 88, .sym 87])))
     (.lt (.bin .add 9 false true) [.sym 72, .str [46, 113]] 87 none
     (.lt (.app 4 40) [.sym 68, .agg [.sym 87, .sym 83, .int .i64 1, .sym 73]] 88 none
     (.call 23 [.sym 74] 89 [none]
     (.lt (.iaddr 49) [.sym 89, .int .i64 1] 90 none
     (.lt (.load 3) [.sym 90] 91 none
     (.lt (.bin .eql 3 false true) [.sym 91, .int .i64 1] 92 none
     (.ite 92
      (.lt (.bin .add 3 false true) [.sym 67, .int .i64 1] 93 none
      (.again 0 0 [.sym 93, .sym 88]))
      (.lt (.bin .add 9 false true) [.sym 72, .str [46, 101, 116]] 93 none
      (.lt (.bin .add 3 false true) [.sym 83, .int .i64 1] 94 none
      (.lt (.bin .eql 3 false true) [.sym 91, .int .i64 2] 95 none
      (.ite 95
       (.lt (.bin .add 9 false true) [.sym 72, .str [46, 99, 118]] 96 none
       (.lt (.app 4 40) [.sym 88, .agg [.sym 96, .sym 94, .sym 91, .sym 73]] 97 none
       (.lt (.bin .add 3 false true) [.sym 67, .int .i64 1] 98 none
       (.again 0 0 [.sym 98, .sym 97]))))
       (.lt (.app 4 40) [.sym 88, .agg [.sym 93, .sym 94, .sym 91, .sym 73]] 96 none
       (.lt (.bin .add 3 false true) [.sym 67, .int .i64 1] 97 none
       (.again 0 0 [.sym 97, .sym 96])))))))))))))))))))))))
   (.done (.sym 68)))))
  .nil)))
theorem run_digit (k : Nat) (h : k < 8) : (XOp.conv 53 9).run Tryd.prog [.vsl 1 1 [.int .u8 (IntKind.u8.wrap (IntKind.i64.wrap (48 + (k : Int))))]] = some (.str (digit k)) := by
  rcases (by omega : k = 0 ∨ k = 1 ∨ k = 2 ∨ k = 3 ∨ k = 4 ∨ k = 5 ∨ k = 6 ∨ k = 7) with rfl | rfl | rfl | rfl | rfl | rfl | rfl | rfl
  all_goals kernel_rfl
/-- a kind of a block -/
theorem block_kind {v : GVar} (h : mayVar v = true) (hv : isValue v.kind = false) : v.kind = 6 ∨ v.kind = 7 ∨ v.kind = 8 ∨ v.kind = 9 ∨ v.kind = 10 ∨ v.kind = 11 ∨ v.kind = 12 := by
  obtain ⟨_, h0, _⟩ := may_facts h
  have := cells_len v.kind
  unfold isValue at hv
  simp only [Bool.and_eq_false_iff, decide_eq_false_iff_not] at hv
  rw [if_neg (by omega)] at this
  repeat' (split at this)
  all_goals omega
theorem names_value {k : Int} (h : isValue k = true) : namesOf k = [] := by
  unfold isValue at h
  simp only [Bool.and_eq_true, decide_eq_true_eq] at h
  unfold namesOf
  repeat' split
  all_goals first
    | rfl
    | (exfalso; omega)
theorem tags_row {v : GVar} (h : mayVar v = true) (hs : 0 < v.size) (a : Int) : tagsOf v a = (List.range v.size.toNat).map (cellTag v a) := by
  obtain ⟨_, _, _, _, h3, _⟩ := may_facts h
  have hv : isValue v.kind = true := by
    cases hv : isValue v.kind with
    | true => rfl
    | false => have := h3 hv; omega
  unfold tagsOf
  rw [names_value hv, if_neg (by simp), if_neg (by omega)]
theorem tags_one {v : GVar} (hv : isValue v.kind = true) (hs : v.size = 0) (a : Int) : tagsOf v a = [⟨v.name, a, v.kind, v.role⟩] := by
  unfold tagsOf
  rw [names_value hv, if_neg (by simp), if_pos hs]
theorem blockR_len (k : Int) : 1 < (blockR k).length := by
  unfold blockR
  repeat' split
  all_goals simp
theorem tags_block {v : GVar} {a : Int} (ha : 0 ≤ a ∧ a ≤ 1000) (hk : v.kind = 6 ∨ v.kind = 7 ∨ v.kind = 8 ∨ v.kind = 9 ∨ v.kind = 10 ∨ v.kind = 11 ∨ v.kind = 12) :
    ((blockR v.kind)[1]'(blockR_len _) = 1 → tagsOf v a = [⟨v.name ++ [46, 113], a, 1, v.role⟩]) ∧
    ((blockR v.kind)[1]'(blockR_len _) = 2 → tagsOf v a = [⟨v.name ++ [46, 113], a, 1, v.role⟩, ⟨v.name ++ [46, 99, 118], IntKind.i64.wrap (a + 1), 2, v.role⟩]) ∧
    (¬ (blockR v.kind)[1]'(blockR_len _) = 1 → ¬ (blockR v.kind)[1]'(blockR_len _) = 2 → (blockR v.kind)[1]'(blockR_len _) = 4 ∧ tagsOf v a = [⟨v.name ++ [46, 113], a, 1, v.role⟩, ⟨v.name ++ [46, 101, 116], IntKind.i64.wrap (a + 1), 4, v.role⟩]) := by
  obtain ⟨name, role, kind, size, first, safe⟩ := v
  simp only at hk ⊢
  have ha0 : w64 (a + ((0 : Nat) : Int)) = a := by
    show IntKind.i64.wrap (a + 0) = a
    rw [Int.add_zero, wrap64 (x := a) (by omega) (by omega)]
  have hw0 : IntKind.i64.wrap a = a := wrap64 (by omega) (by omega)
  have hr2 : List.range 2 = [0, 1] := rfl
  have hr1 : List.range 1 = [0] := rfl
  rcases hk with rfl | rfl | rfl | rfl | rfl | rfl | rfl
  all_goals
    refine ⟨fun h => ?_, fun h => ?_, fun h h' => ?_⟩
    all_goals first
      | (exfalso; simp [blockR] at h; done)
      | (exfalso; simp [blockR] at h'; done)
      | skip
  all_goals (try refine ⟨rfl, ?_⟩)
  all_goals (simp [tagsOf, namesOf, kindsOf, nameTag, hr2, hr1, hw0, w64])
theorem p11 (l : List GVar) (h : Own l) : Pure Tryd.prog 11 [vrs l] (tags (tagsF l 0)) := by
  have h12 := h.le
  have hall := h.all
  refine pure_shape (sh := [none]) (ls := [vrs l]) (c := c11) (n := 300) (t := t11) mo ov rfl (okC1 (okVrs l)) (okC_noRef (okTags _)) (fun Y _ => known0 _) rfl (by kernel_rfl) fun Y hf hg => ?_
  unfold t11
  refine VOK_call (p21 l h) rfl (by simp only [okL, okC, okInts]) ?_
  refine VOK_loop (ι := Nat) (fun i => [.int .i64 i, tags (tagsF (l.take i) 0)]) (fun i => i ≤ l.length) (fun i => l.length - i) 0 (Nat.zero_le _) rfl
    (fun i _ => by simp only [okL, okC, okTags]) (fun i j _ _ h => ?_) (fun i hi => ?_)
  · simp at h; have h : i = j := by omega
    rw [h]
  have hl49 : (XOp.len 49).run Tryd.prog [ints (addrsF l 0)] = some (.int .i64 (l.length : Int)) := by rw [len49, addrsF_len]
  refine VOK_lt hl49 rfl (VOK_lt (run_lss ..) rfl (VOK_ite rfl (fun hlt => ?_) (fun hlt => VOK_done ?_)))
  rotate_left
  · have he : i = l.length := by simp only [decide_eq_false_iff_not] at hlt; omega
    subst he
    show tags (tagsF (l.take l.length) 0) = _
    rw [List.take_length]
  have hlt : i < l.length := by simp only [decide_eq_true_eq] at hlt; omega
  have hla : i < (addrsF l 0).length := by rw [addrsF_len]; exact hlt
  have hmv : mayVar l[i] = true := by rw [List.all_eq_true] at hall; exact hall _ (List.getElem_mem hlt)
  obtain ⟨hs1, hs2⟩ := size_le hmv
  have hat := addrs_at l 0 i hla
  have h3 : (l.take i).length ≤ 12 := by rw [List.length_take]; omega
  have h1 := tagsF_le (l.take i) 0 (all_take hall i)
  have hnl := name_le hmv
  have hsum := h.sumT i
  have hfl := firstF_le (l.take i) (all_take hall i)
  have hld : (XOp.load 3).run Tryd.prog [.vptr (encL encI ((addrsF l 0).drop i))] = some (.int .i64 (sumW (l.take i) 0)) := by rw [ld3i hla, hat]
  have hsn : tagsF (l.take (i + 1)) 0 = tagsF (l.take i) 0 ++ tagsOf l[i] (sumW (l.take i) 0) := by rw [take_snoc l hlt, tagsF_snoc]
  have hinc : (XOp.bin .add 3 false true).run Tryd.prog [.int .i64 (i : Int), .int .i64 1] = some (.int .i64 ((i + 1 : Nat) : Int)) := by rw [run_add, wrapS hlt (by omega)]
  have ha : 0 ≤ sumW (l.take i) 0 ∧ sumW (l.take i) 0 ≤ 1000 := by omega
  generalize hA : sumW (l.take i) 0 = a at *
  generalize hT : tagsF (l.take i) 0 = T at *
  have hT0 : T.length ≤ 96 := by omega
  refine VOK_lt (ia22 hlt) (encL_ok okVar _) (VOK_ltN (ld39 hlt) rfl rfl (VOK_lt (ia49 hla) (encL_ok okI1 _) (VOK_lt hld rfl (VOK_lt (run_gtr ..) rfl ?_))))
  generalize hv : l[i] = v at *
  refine VOK_ite rfl (fun hs => ?_) (fun hs => VOK_call (p22 v.kind) rfl rfl (VOK_lt (run_eql ..) rfl (VOK_ite rfl (fun hk => ?_) (fun hk => ?_))))
  · -- a row
    have hs' : 0 < v.size := by simpa using hs
    rw [tags_row hmv hs' a] at hsn
    obtain ⟨m, hm⟩ : ∃ m : Nat, v.size = m := ⟨v.size.toNat, by omega⟩
    have hm2 : v.size.toNat = m := by omega
    rw [hm2] at hsn
    refine VOK_loop (ι := Nat) (fun k => [.int .i64 k, tags (T ++ (List.range k).map (cellTag v a))]) (fun k => k ≤ m) (fun k => m - k) 0 (Nat.zero_le _) (by simp only [List.range_zero, List.map_nil, List.append_nil]; rfl)
      (fun i _ => by simp only [okL, okC, okTags]) (fun i j _ _ h => ?_) (fun k hk => ?_)
    · simp at h; have h : i = j := by omega
      rw [h]
    refine VOK_lt (run_lss ..) rfl (VOK_ite rfl (fun hkl => ?_) (fun hkl => ?_))
    · have hkl : k < m := by simp only [decide_eq_true_eq] at hkl; omega
      refine VOK_lt (run_adds _ _ _ v.name [91] (by simp; omega)) rfl (VOK_lt (run_add ..) rfl (VOK_lt (cv_int Tryd.underlying3 Tryd.underlying5 _) rfl (VOK_lt (run_digit k (by omega)) rfl ?_)))
      refine VOK_lt (run_adds _ _ _ _ (digit k) (by simp [digit]; omega)) rfl (VOK_lt (run_adds _ _ _ _ [93] (by simp [digit]; omega)) rfl (VOK_lt (run_add ..) rfl ?_))
      refine VOK_lt (r := tags (T ++ (List.range k).map (cellTag v a) ++ [cellTag v a k])) (app4_40 _ (cellTag v a k) (by simp; omega)) (okTags _) (VOK_lt (run_add ..) rfl (VOK_again rfl ⟨k + 1, hkl, ?_, by omega⟩))
      rw [map_range_succ, ← wrapS hkl (by omega), ← List.append_assoc]; rfl
    · have he : k = m := by simp only [decide_eq_false_iff_not] at hkl; omega
      subst he
      refine VOK_lt hinc rfl (VOK_again rfl ⟨i + 1, hlt, ?_, by omega⟩)
      rw [hsn]; rfl
  · -- one cell
    have hs' : v.size = 0 := by
      have : ¬ 0 < v.size := by simpa using hs
      omega
    have hvv : isValue v.kind = true := (value_one _).2 (by simpa using hk)
    rw [tags_one hvv hs' a] at hsn
    refine VOK_lt (app4_40 T ⟨v.name, a, v.kind, v.role⟩ (by omega)) (okTags _) (VOK_lt hinc rfl (VOK_again rfl ⟨i + 1, hlt, ?_, by omega⟩))
    rw [hsn]; rfl
  · -- a block
    have hvv : isValue v.kind = false := by
      cases hv : isValue v.kind with
      | false => rfl
      | true => have := (value_one _).1 hv; rw [this] at hk; simp at hk
    obtain ⟨t1, t2, t3⟩ := tags_block ha (block_kind hmv hvv)
    have hb := blockR_len v.kind
    refine VOK_lt (run_adds _ _ _ v.name [46, 113] (by simp; omega)) rfl (VOK_lt (app4_40 T ⟨v.name ++ [46, 113], a, 1, v.role⟩ (by omega)) (okTags _) (VOK_call (p23 v.kind) rfl (okC1 (okInts _)) (VOK_lt (ia49 hb) (encL_ok okI1 _) (VOK_lt (ld3i hb) rfl (VOK_lt (run_eql ..) rfl (VOK_ite rfl (fun hx => ?_) (fun hx => ?_)))))))
    · have hx' := t1 (by simpa using hx)
      rw [hx'] at hsn
      refine VOK_lt hinc rfl (VOK_again rfl ⟨i + 1, hlt, ?_, by omega⟩)
      rw [hsn]; rfl
    · have hx' : ¬ (blockR v.kind)[1] = 1 := by simpa using hx
      refine VOK_lt (run_adds _ _ _ v.name [46, 101, 116] (by simp; omega)) rfl (VOK_lt (run_add ..) rfl (VOK_lt (run_eql ..) rfl (VOK_ite rfl (fun hy => ?_) (fun hy => ?_))))
      · have hy' : (blockR v.kind)[1] = 2 := by simpa using hy
        have hz := t2 hy'
        rw [hz] at hsn
        refine VOK_lt (run_adds _ _ _ v.name [46, 99, 118] (by simp; omega)) rfl (VOK_lt (r := tags (T ++ [⟨v.name ++ [46, 113], a, 1, v.role⟩] ++ [⟨v.name ++ [46, 99, 118], IntKind.i64.wrap (a + 1), 2, v.role⟩])) ?_ (okTags _) (VOK_lt hinc rfl (VOK_again rfl ⟨i + 1, hlt, ?_, by omega⟩)))
        · rw [← hy']
          exact app4_40 _ ⟨v.name ++ [46, 99, 118], IntKind.i64.wrap (a + 1), (blockR v.kind)[1], v.role⟩ (by simp; omega)
        · rw [hsn, List.append_assoc]; rfl
      · have hy' : ¬ (blockR v.kind)[1] = 2 := by simpa using hy
        obtain ⟨h4, hz⟩ := t3 hx' hy'
        rw [hz] at hsn
        refine VOK_lt (r := tags (T ++ [⟨v.name ++ [46, 113], a, 1, v.role⟩] ++ [⟨v.name ++ [46, 101, 116], IntKind.i64.wrap (a + 1), 4, v.role⟩])) ?_ (okTags _) (VOK_lt hinc rfl (VOK_again rfl ⟨i + 1, hlt, ?_, by omega⟩))
        · rw [← h4]
          exact app4_40 _ ⟨v.name ++ [46, 101, 116], IntKind.i64.wrap (a + 1), (blockR v.kind)[1], v.role⟩ (by simp; omega)
        · rw [hsn, List.append_assoc]; rfl
end Go.Proofs.YtbceomdmpbmnkaaDoor.vars
