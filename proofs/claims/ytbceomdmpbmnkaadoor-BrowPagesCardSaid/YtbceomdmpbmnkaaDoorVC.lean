/-
  What the functions of path and of the document come to, each by its tree: Tags; Width, BlockKinds, Zero, cells.
-/
import Derived.Test.YtbceomdmpbmnkaaDoorV6
import Derived.KernelRfl
set_option maxRecDepth 100000
set_option linter.unusedVariables false
set_option linter.unusedSimpArgs false
namespace Go.Proofs.YtbceomdmpbmnkaaDoor.vars
open Go Go.Sx
def c10 : VC := ⟨⟨[], []⟩, [(19, [none, none]), (20, [none])], [(0, [⟨[(14, .slx 0 0 0), (0, .sym 64), (2, .slx 0 4 1), (12, .sym 65), (13, .sym 67)], [], 1, 2, [⟨0, 4, 1, 2, none⟩], []⟩])]⟩
def t10 : VT :=
 (.call 19 [.sym 64] 65 [none, none]
 (.lt (.len 49) [.sym 65] 67 none
 (.loop 68 0 [.int .i64 0, .nsl]
  (.cons 2
  (.lt (.bin .lss 3 false false) [.sym 68, .sym 67] 70 none
  (.ite 70
   (.lt (.iaddr 49) [.sym 65, .sym 68] 71 none
   (.lt (.load 3) [.sym 71] 72 none
   (.lt (.iaddr 22) [.sym 64, .sym 68] 73 none
   (.lt (.load 39) [.sym 73] 74 (some 10)
   (.call 20 [.agg [.sym 74, .sym 75, .sym 76, .sym 77, .sym 78, .sym 79, .sym 80, .sym 81, .sym 82, .sym 83], .sym 72] 84 [none]
   (.lt (.app 4 40) [.sym 69, .sym 84] 85 none
   (.lt (.bin .add 3 false true) [.sym 68, .int .i64 1] 86 none
   (.again 0 0 [.sym 86, .sym 85]))))))))
   (.done (.sym 69))))
  .nil))))
/-- all tags, from a cell on -/
def tagsF : List GVar → Int → List GTag
  | [], _ => []
  | v :: r, n => tagsOf v n ++ tagsF r (IntKind.i64.wrap (n + wid v))
theorem tagsF_snoc (v : GVar) : ∀ (l : List GVar) (n : Int), tagsF (l ++ [v]) n = tagsF l n ++ tagsOf v (sumW l n)
  | [], _ => by simp [tagsF, sumW]
  | a :: r, n => by simp only [List.cons_append, tagsF, sumW, tagsF_snoc v r, List.append_assoc]
theorem tagsOf_le (v : GVar) (a : Int) (hs : v.size ≤ 8) : (tagsOf v a).length ≤ 8 := by
  have := (names_le v.kind).1
  unfold tagsOf
  split
  · simp; omega
  · split
    · simp
    · simp; omega
theorem tagsF_le : ∀ (l : List GVar) (n : Int), l.all mayVar = true → (tagsF l n).length ≤ 8 * l.length
  | [], _, _ => by simp [tagsF]
  | v :: r, n, h => by
    simp only [List.all_cons, Bool.and_eq_true] at h
    have h1 := tagsOf_le v n (size_le h.1).1
    have h2 := tagsF_le r (IntKind.i64.wrap (n + wid v)) h.2
    simp only [tagsF, List.length_append, List.length_cons]; omega
theorem name_le {v : GVar} (h : mayVar v = true) : v.name.length ≤ 8 := by
  have := (may_facts h).1
  unfold nameOk at this
  simp only [Bool.and_eq_true, decide_eq_true_eq] at this
  exact this.1.2
theorem p10 (l : List GVar) (hl : l.length ≤ 1000) (hz : ∀ v ∈ l, Plain v) (hm : mayE l = 0) : Pure Tryd.prog 10 [vrs l] (tags (tagsF l 0)) := by
  have p19' := p19 l hl hz
  rw [if_pos hm] at p19'
  obtain ⟨hall, h12, _, _⟩ := may_all hm
  refine pure_shape (sh := [none]) (ls := [vrs l]) (c := c10) (n := 300) (t := t10) mo ov rfl (okC1 (okVrs l)) (okC_noRef (okTags _)) (fun Y _ => known0 _) rfl (by kernel_rfl) fun Y hf hg => ?_
  unfold t10
  have hl49 : (XOp.len 49).run Tryd.prog [ints (addrsF l 0)] = some (.int .i64 (l.length : Int)) := by rw [len49, addrsF_len]
  refine VOK_call p19' rfl (by simp only [okL, okC, okInts]) (VOK_lt hl49 rfl ?_)
  refine VOK_loop (ι := Nat) (fun i => [.int .i64 i, tags (tagsF (l.take i) 0)]) (fun i => i ≤ l.length) (fun i => l.length - i) 0 (Nat.zero_le _) rfl
    (fun i _ => by simp only [okL, okC, okTags]) (fun i j _ _ h => ?_) (fun i hi => ?_)
  · simp at h; have h : i = j := by omega
    rw [h]
  refine VOK_lt (run_lss ..) rfl (VOK_ite rfl (fun hlt => ?_) (fun hlt => VOK_done ?_))
  · have hlt : i < l.length := by simp only [decide_eq_true_eq] at hlt; omega
    have hla : i < (addrsF l 0).length := by rw [addrsF_len]; exact hlt
    have hmv : mayVar l[i] = true := by rw [List.all_eq_true] at hall; exact hall _ (List.getElem_mem hlt)
    obtain ⟨hs1, hs2⟩ := size_le hmv
    have hat := addrs_at l 0 i hla
    have h1 := tagsF_le (l.take i) 0 (all_take hall i)
    have h2 := tagsOf_le l[i] (sumW (l.take i) 0) hs1
    have h3 : (l.take i).length ≤ 12 := by rw [List.length_take]; omega
    have hld : (XOp.load 3).run Tryd.prog [.vptr (encL encI ((addrsF l 0).drop i))] = some (.int .i64 (sumW (l.take i) 0)) := by rw [ld3i hla, hat]
    refine VOK_lt (ia49 hla) (encL_ok okI1 _) (VOK_lt hld rfl (VOK_lt (ia22 hlt) (encL_ok okVar _) (VOK_ltN (ld39 hlt) rfl rfl (VOK_call (p20 l[i] _ (name_le hmv) ⟨hs2, hs1⟩) rfl (okC1 (okTags _)) (VOK_lt (apps4_40 _ _ (by omega)) (okTags _) (VOK_lt (run_add ..) rfl (VOK_again rfl ⟨i + 1, hlt, ?_, by omega⟩)))))))
    rw [take_snoc l hlt, tagsF_snoc, ← wrapS hlt hl]; rfl
  · have he : i = l.length := by simp only [decide_eq_false_iff_not] at hlt; omega
    subst he
    show tags (tagsF (l.take l.length) 0) = _
    rw [List.take_length]

/-! ### the document's -/
def c22 : VC := ⟨⟨[], []⟩, [], []⟩
def t22 : VT :=
 (.lt (.bin .geq 3 false true) [.sym 64, .int .i64 1] 65 none
 (.ite 65
  (.lt (.bin .leq 3 false true) [.sym 64, .int .i64 5] 66 none
  (.ite 66
   (.done (.int .i64 1))
   (.lt (.bin .geq 3 false true) [.sym 64, .int .i64 6] 67 none
   (.ite 67
    (.lt (.bin .leq 3 false true) [.sym 64, .int .i64 8] 68 none
    (.ite 68
     (.done (.int .i64 4))
     (.lt (.bin .eql 3 false true) [.sym 64, .int .i64 9] 69 none
     (.ite 69
      (.done (.int .i64 3))
      (.lt (.bin .eql 3 false true) [.sym 64, .int .i64 10] 70 none
      (.ite 70
       (.done (.int .i64 3))
       (.lt (.bin .eql 3 false true) [.sym 64, .int .i64 11] 71 none
       (.ite 71
        (.done (.int .i64 2))
        (.lt (.bin .eql 3 false true) [.sym 64, .int .i64 12] 72 none
        (.ite 72
         (.done (.int .i64 2))
         (.done (.int .i64 0))))))))))))
    (.lt (.bin .eql 3 false true) [.sym 64, .int .i64 9] 68 none
    (.ite 68
     (.done (.int .i64 3))
     (.lt (.bin .eql 3 false true) [.sym 64, .int .i64 10] 69 none
     (.ite 69
      (.done (.int .i64 3))
      (.lt (.bin .eql 3 false true) [.sym 64, .int .i64 11] 70 none
      (.ite 70
       (.done (.int .i64 2))
       (.lt (.bin .eql 3 false true) [.sym 64, .int .i64 12] 71 none
       (.ite 71
        (.done (.int .i64 2))
        (.done (.int .i64 0))))))))))))))
  (.lt (.bin .geq 3 false true) [.sym 64, .int .i64 6] 66 none
  (.ite 66
   (.lt (.bin .leq 3 false true) [.sym 64, .int .i64 8] 67 none
   (.ite 67
    (.done (.int .i64 4))
    (.lt (.bin .eql 3 false true) [.sym 64, .int .i64 9] 68 none
    (.ite 68
     (.done (.int .i64 3))
     (.lt (.bin .eql 3 false true) [.sym 64, .int .i64 10] 69 none
     (.ite 69
      (.done (.int .i64 3))
      (.lt (.bin .eql 3 false true) [.sym 64, .int .i64 11] 70 none
      (.ite 70
       (.done (.int .i64 2))
       (.lt (.bin .eql 3 false true) [.sym 64, .int .i64 12] 71 none
       (.ite 71
        (.done (.int .i64 2))
        (.done (.int .i64 0))))))))))))
   (.lt (.bin .eql 3 false true) [.sym 64, .int .i64 9] 67 none
   (.ite 67
    (.done (.int .i64 3))
    (.lt (.bin .eql 3 false true) [.sym 64, .int .i64 10] 68 none
    (.ite 68
     (.done (.int .i64 3))
     (.lt (.bin .eql 3 false true) [.sym 64, .int .i64 11] 69 none
     (.ite 69
      (.done (.int .i64 2))
      (.lt (.bin .eql 3 false true) [.sym 64, .int .i64 12] 70 none
      (.ite 70
       (.done (.int .i64 2))
       (.done (.int .i64 0))))))))))))))
theorem cells_len (k : Int) : (((cellsOf k).length : Nat) : Int) = if 1 ≤ k ∧ k ≤ 5 then 1 else if 6 ≤ k ∧ k ≤ 8 then 4 else if k = 9 ∨ k = 10 then 3 else if k = 11 ∨ k = 12 then 2 else 0 := by
  unfold cellsOf isValue
  simp only [Bool.and_eq_true, decide_eq_true_eq]
  repeat' split
  all_goals first
    | rfl
    | (exfalso; omega)
theorem p22 (k : Int) : Pure Tryd.prog 22 [.int .i64 k] (.int .i64 ((cellsOf k).length : Int)) := by
  rw [cells_len]
  refine pure_shape (sh := [none]) (ls := [.int .i64 k]) (c := c22) (n := 300) (t := t22) mo ov rfl rfl rfl (fun Y _ => known0 _) rfl (by kernel_rfl) fun Y hf hg => ?_
  unfold t22
  repeat' (first
    | refine VOK_lt (run_eql ..) rfl ?_
    | refine VOK_lt (run_geq ..) rfl ?_
    | refine VOK_lt (run_leq ..) rfl ?_
    | refine VOK_ite rfl (fun h => ?_) (fun h => ?_)
    | refine VOK_done ?_)
  all_goals (simp only [decide_eq_true_eq, decide_eq_false_iff_not] at *)
  all_goals
    (show AV.int .i64 _ = AV.int .i64 _
     congr 1
     repeat' split
     all_goals first
       | rfl
       | (exfalso; omega))
def c23 : VC := ⟨⟨[], []⟩, [], []⟩
def t23 : VT :=
 (.lt (.bin .geq 3 false true) [.sym 64, .int .i64 6] 65 none
 (.ite 65
  (.lt (.bin .leq 3 false true) [.sym 64, .int .i64 8] 66 none
  (.ite 66
   (.done (.vsl 4 1 [.int .i64 1, .int .i64 4, .int .i64 1, .int .i64 4]))
   (.lt (.bin .eql 3 false true) [.sym 64, .int .i64 9] 67 none
   (.ite 67
    (.done (.vsl 3 1 [.int .i64 1, .int .i64 2, .int .i64 1]))
    (.lt (.bin .eql 3 false true) [.sym 64, .int .i64 10] 68 none
    (.ite 68
     (.done (.vsl 3 1 [.int .i64 1, .int .i64 2, .int .i64 1]))
     (.done (.vsl 2 1 [.int .i64 1, .int .i64 1]))))))))
  (.lt (.bin .eql 3 false true) [.sym 64, .int .i64 9] 66 none
  (.ite 66
   (.done (.vsl 3 1 [.int .i64 1, .int .i64 2, .int .i64 1]))
   (.lt (.bin .eql 3 false true) [.sym 64, .int .i64 10] 67 none
   (.ite 67
    (.done (.vsl 3 1 [.int .i64 1, .int .i64 2, .int .i64 1]))
    (.done (.vsl 2 1 [.int .i64 1, .int .i64 1]))))))))
def blockR (k : Int) : List Int := if 6 ≤ k ∧ k ≤ 8 then [1, 4, 1, 4] else if k = 9 ∨ k = 10 then [1, 2, 1] else [1, 1]
theorem blockR_eq {k : Int} (h : 1 < (cellsOf k).length) : blockR k = cellsOf k := by
  unfold cellsOf isValue at h ⊢
  unfold blockR
  simp only [Bool.and_eq_true, decide_eq_true_eq] at h ⊢
  repeat' split
  all_goals first
    | rfl
    | (exfalso; omega)
    | (exfalso; simp_all)
theorem p23 (k : Int) : Pure Tryd.prog 23 [.int .i64 k] (ints (blockR k)) := by
  refine pure_shape (sh := [none]) (ls := [.int .i64 k]) (c := c23) (n := 300) (t := t23) mo ov rfl rfl (okC_noRef (okInts _)) (fun Y _ => known0 _) rfl (by kernel_rfl) fun Y hf hg => ?_
  unfold t23
  repeat' (first
    | refine VOK_lt (run_eql ..) rfl ?_
    | refine VOK_lt (run_geq ..) rfl ?_
    | refine VOK_lt (run_leq ..) rfl ?_
    | refine VOK_ite rfl (fun h => ?_) (fun h => ?_)
    | refine VOK_done ?_)
  all_goals (simp only [decide_eq_true_eq, decide_eq_false_iff_not] at *)
  all_goals (unfold blockR)
  all_goals
    (repeat' split
     all_goals first
       | rfl
       | (exfalso; omega))
def c18 : VC := ⟨⟨[], []⟩, [(22, [none])], []⟩
def t18 : VT :=
 (.call 22 [.sym 64] 65 [none]
 (.lt (.bin .neq 3 false true) [.sym 65, .int .i64 1] 66 none
 (.ite 66
  (.done (.agg [.int .i64 0, .int .i64 0, .flt .f64 0]))
  (.done (.agg [.sym 64, .int .i64 0, .flt .f64 0])))))
theorem value_one (k : Int) : isValue k = true ↔ ((cellsOf k).length : Int) = 1 := by
  rw [cells_len]
  unfold isValue
  simp only [Bool.and_eq_true, decide_eq_true_eq]
  constructor
  · intro h; rw [if_pos h]
  · intro h
    by_cases h1 : 1 ≤ k ∧ k ≤ 5
    · exact h1
    · rw [if_neg h1] at h
      exfalso
      repeat' (split at h)
      all_goals omega
theorem p18 (k : Int) : Pure Tryd.prog 18 [.int .i64 k] (.agg (encVal (zeroOf k))) := by
  refine pure_shape (sh := [none]) (ls := [.int .i64 k]) (c := c18) (n := 300) (t := t18) mo ov rfl rfl rfl (fun Y _ => known0 _) rfl (by kernel_rfl) fun Y hf hg => ?_
  unfold t18
  refine VOK_call (p22 k) rfl rfl (VOK_lt (run_neq ..) rfl (VOK_ite rfl (fun h => VOK_done ?_) (fun h => VOK_done ?_)))
  · have h' : isValue k = false := by
      cases hv : isValue k with
      | false => rfl
      | true => have := (value_one k).1 hv; rw [this] at h; simp at h
    show AV.agg _ = _
    unfold zeroOf; rw [h']; rfl
  · have h' : isValue k = true := (value_one k).2 (by simpa using h)
    show AV.agg _ = _
    unfold zeroOf; rw [h']; rfl
def c27 : VC := ⟨⟨[], []⟩, [(22, [none])], []⟩
def t27 : VT :=
 (.lt (.bin .gtr 3 false true) [.sym 67, .int .i64 0] 74 none
 (.ite 74
  (.done (.sym 67))
  (.call 22 [.sym 66] 75 [none]
  (.done (.sym 75)))))
/-- how many cells, of one that may be -/
theorem p27 (v : GVar) (hv : mayVar v = true) : Pure Tryd.prog 27 [.agg (encVar v)] (.int .i64 (wid v)) := by
  obtain ⟨w1, w2⟩ := width_law hv
  have hw := wid_first hv
  refine pure_shape (sh := [some 10]) (ls := encVar v) (c := c27) (n := 300) (t := t27) mo ov rfl rfl rfl (fun Y _ => known0 _) rfl (by kernel_rfl) fun Y hf hg => ?_
  unfold t27
  refine VOK_lt (run_gtr ..) rfl (VOK_ite rfl (fun h => VOK_done ?_) (fun h => VOK_call (p22 v.kind) rfl rfl (VOK_done ?_)))
  · have h' : 0 < v.size := by simpa using h
    show AV.int .i64 v.size = _
    rw [hw, w1 h']
  · have h' : ¬ 0 < v.size := by simpa using h
    show AV.int .i64 _ = _
    rw [hw, w2 h']
end Go.Proofs.YtbceomdmpbmnkaaDoor.vars
/-
  What the document's functions come to, each by its tree: MayVars, Addrs, First.
-/
set_option maxRecDepth 100000
set_option linter.unusedVariables false
set_option linter.unusedSimpArgs false
namespace Go.Proofs.YtbceomdmpbmnkaaDoor.vars
open Go Go.Sx
theorem p33 (v : GVar) (hv : v ∈ playV) : Pure Tryd.prog 33 [.agg (encVar v)] (.bool true) := by
  simp only [playV, List.mem_cons, List.not_mem_nil, or_false] at hv
  rcases hv with rfl | rfl | rfl | rfl | rfl | rfl | rfl | rfl | rfl | rfl | rfl | rfl
  all_goals exact memo_ok (n := 300) mo ov (by kernel_rfl)
/-- variables of the program's own, some left out -/
structure Own (l : List GVar) : Prop where
  may : mayE l = 0
  all : l.all mayVar = true
  le : l.length ≤ 12
  plain : ∀ v ∈ l, Plain v
  nodup : (l.map GVar.name).Nodup
  own : ∀ v ∈ l, v ∈ playV
theorem Own.sum {l : List GVar} (h : Own l) : sumW l 0 = ((firstF l).length : Int) := by
  have := sumW_tot l 0 h.all (by have := h.le; omega)
  simpa using this
theorem Own.sumT {l : List GVar} (h : Own l) (i : Nat) : sumW (l.take i) 0 = ((firstF (l.take i)).length : Int) := by
  have := sumW_tot (l.take i) 0 (all_take h.all i) (by rw [List.length_take]; have := h.le; omega)
  simpa using this
theorem Own.le64 {l : List GVar} (h : Own l) : sumW l 0 ≤ 64 := (may_all h.may).2.2.1
theorem own_sub {a : List GVar} (h : a.Sublist playV) : Own a := by
  obtain ⟨h1, h2, h3⟩ := play_may h
  exact ⟨h1, (may_all h1).1, h2, h3, List.Nodup.sublist (h.map GVar.name) (by decide +kernel), fun v hv => h.subset hv⟩
theorem fa39_0 (v : GVar) (r : List AV) : (XOp.faddr 39 0).run Tryd.prog [.vptr (encVar v ++ r)] = some (.vptr (.str v.name :: ([.int .i64 v.role, .int .i64 v.kind, .int .i64 v.size, .int .i64 v.first.kind, .int .i64 v.first.i, .flt .f64 v.first.f, .int .i64 v.safe.kind, .int .i64 v.safe.i, .flt .f64 v.safe.f] ++ r))) := by kernel_rfl
theorem fa39_2 (v : GVar) (r : List AV) : (XOp.faddr 39 2).run Tryd.prog [.vptr (encVar v ++ r)] = some (.vptr (.int .i64 v.kind :: ([.int .i64 v.size, .int .i64 v.first.kind, .int .i64 v.first.i, .flt .f64 v.first.f, .int .i64 v.safe.kind, .int .i64 v.safe.i, .flt .f64 v.safe.f] ++ r))) := by kernel_rfl
theorem fa39_4 (v : GVar) (r : List AV) : (XOp.faddr 39 4).run Tryd.prog [.vptr (encVar v ++ r)] = some (.vptr (encVal v.first ++ ([.int .i64 v.safe.kind, .int .i64 v.safe.i, .flt .f64 v.safe.f] ++ r))) := by kernel_rfl
theorem ia22' {l : List GVar} {i : Nat} (h : i < l.length) : (XOp.iaddr 22).run Tryd.prog [vrs l, .int .i64 (i : Int)] = some (.vptr (encVar l[i] ++ encL encVar (l.drop (i + 1)))) := by
  have := ia22 h
  rw [List.drop_eq_getElem_cons h] at this
  exact this
theorem ld9x (x : AV) (r : List AV) : (XOp.load 9).run Tryd.prog [.vptr (x :: r)] = some x := run_load_one Tryd.underlying9 rfl x r
theorem ld3 (x : AV) (r : List AV) : (XOp.load 3).run Tryd.prog [.vptr (x :: r)] = some x := run_load_one Tryd.underlying3 rfl x r
theorem ld37 (v : GVal) (r : List AV) : (XOp.load 37).run Tryd.prog [.vptr (encVal v ++ r)] = some (.agg (encVal v)) := by kernel_rfl
theorem okRow {α : Type} {enc : α → List AV} (h : ∀ a, okL (enc a) = true) (a : α) (l : List α) : okL (enc a ++ encL enc l) = true := encL_ok h (a :: l)
theorem okTail {α : Type} {enc : α → List AV} (h : ∀ a, okL (enc a) = true) (l : List α) (p : List AV) (hp : okL p = true) : okL (p ++ encL enc l) = true := by
  have := encL_ok h l
  induction p with
  | nil => exact this
  | cons a r ih =>
    rw [okL_cons] at hp
    obtain ⟨k1, k2⟩ := and_split hp
    rw [List.cons_append, okL_cons, k1, ih k2]; rfl
def c26 : VC := ⟨⟨[], []⟩, [(33, [none]), (27, [none])], [(0, [⟨[(3, .slx 0 0 0), (0, .sym 64), (4, .slx 1 0 0)], [], 0, 2, [], []⟩]), (2, [⟨[(5, .slx 0 0 0), (0, .sym 64)], [], 0, 1, [], []⟩]), (4, [⟨[(6, .slx 0 0 0), (0, .sym 64), (5, .sym 72)], [], 0, 1, [], []⟩])]⟩
def t26 : VT :=
 (.lt (.len 22) [.sym 64] 65 none
 (.lt (.bin .gtr 3 false true) [.sym 65, .int .i64 12] 66 none
 (.ite 66
  (.done (.int .i64 1))
  (.loop 67 0 [.int .i64 0, .int .i64 0]
   (.cons 2
   (.lt (.len 22) [.sym 64] 69 none
   (.lt (.bin .lss 3 false false) [.sym 68, .sym 69] 70 none
   (.ite 70
    (.lt (.iaddr 22) [.sym 64, .sym 68] 71 none
    (.lt (.load 39) [.sym 71] 72 (some 10)
    (.call 33 [.agg [.sym 72, .sym 73, .sym 74, .sym 75, .sym 76, .sym 77, .sym 78, .sym 79, .sym 80, .sym 81]] 82 [none]
    (.lt (.un .not) [.sym 82] 83 none
    (.ite 83
     (.done (.int .i64 1))
     (.lt (.iaddr 22) [.sym 64, .sym 68] 84 none
     (.lt (.load 39) [.sym 84] 85 (some 10)
     (.call 27 [.agg [.sym 85, .sym 86, .sym 87, .sym 88, .sym 89, .sym 90, .sym 91, .sym 92, .sym 93, .sym 94]] 95 [none]
     (.lt (.bin .add 3 false false) [.sym 67, .sym 95] 96 none
     (.lt (.bin .add 3 false true) [.sym 68, .int .i64 1] 97 none
     (.again 0 0 [.sym 96, .sym 97])))))))))))
    (.lt (.bin .gtr 3 false true) [.sym 67, .int .i64 64] 71 none
    (.ite 71
     (.done (.int .i64 1))
     (.loop 72 0 [.int .i64 0]
      (.cons 1
      (.lt (.len 22) [.sym 64] 73 none
      (.lt (.bin .lss 3 false false) [.sym 72, .sym 73] 74 none
      (.ite 74
       (.loop 75 0 [.int .i64 0]
        (.cons 1
        (.lt (.bin .lss 3 false false) [.sym 75, .sym 72] 76 none
        (.ite 76
         (.lt (.iaddr 22) [.sym 64, .sym 72] 77 none
         (.lt (.faddr 39 0) [.sym 77] 78 none
         (.lt (.load 9) [.sym 78] 79 none
         (.lt (.iaddr 22) [.sym 64, .sym 75] 80 none
         (.lt (.faddr 39 0) [.sym 80] 81 none
         (.lt (.load 9) [.sym 81] 82 none
         (.lt (.bin .eql 9 false false) [.sym 79, .sym 82] 83 none
         (.ite 83
          (.done (.int .i64 3))
          (.lt (.bin .add 3 false true) [.sym 75, .int .i64 1] 84 none
          (.again 2 0 [.sym 84]))))))))))
         (.lt (.bin .add 3 false true) [.sym 72, .int .i64 1] 77 none
         (.again 1 0 [.sym 77]))))
        .nil))
       (.done (.int .i64 0)))))
      .nil)))))))
   .nil)))))
theorem p26 (l : List GVar) (h : Own l) : Pure Tryd.prog 26 [vrs l] (.int .i64 0) := by
  have h12 := h.le
  have hall := h.all
  refine pure_shape (sh := [none]) (ls := [vrs l]) (c := c26) (n := 300) (t := t26) mo ov rfl (okC1 (okVrs l)) rfl (fun Y _ => known0 _) rfl (by kernel_rfl) fun Y hf hg => ?_
  unfold t26
  refine VOK_lt (len22 l) rfl (VOK_lt (run_gtr ..) rfl (VOK_ite rfl (fun h => ?_) (fun _ => ?_)))
  · simp only [decide_eq_true_eq] at h; omega
  refine VOK_loop (ι := Nat) (fun i => [.int .i64 (sumW (l.take i) 0), .int .i64 i]) (fun i => i ≤ l.length) (fun i => l.length - i) 0 (Nat.zero_le _) rfl
    (fun i _ => rfl) (fun i j _ _ h => ?_) (fun i hi => ?_)
  · simp at h; have h : i = j := by omega
    rw [h]
  refine VOK_lt (len22 l) rfl (VOK_lt (run_lss ..) rfl (VOK_ite rfl (fun hlt => ?_) (fun hlt => ?_)))
  · have hlt : i < l.length := by simp only [decide_eq_true_eq] at hlt; omega
    have hmv : mayVar l[i] = true := by rw [List.all_eq_true] at hall; exact hall _ (List.getElem_mem hlt)
    refine VOK_lt (ia22 hlt) (encL_ok okVar _) (VOK_ltN (ld39 hlt) rfl rfl (VOK_call (p33 l[i] (h.own _ (List.getElem_mem hlt))) rfl rfl (VOK_lt (run_not ..) rfl (VOK_ite rfl (fun h => ?_) (fun _ => ?_)))))
    · cases h
    refine VOK_lt (ia22 hlt) (encL_ok okVar _) (VOK_ltN (ld39 hlt) rfl rfl (VOK_call (p27 l[i] hmv) rfl rfl (VOK_lt (run_add ..) rfl (VOK_lt (run_add ..) rfl (VOK_again rfl ⟨i + 1, hlt, ?_, by omega⟩)))))
    rw [take_snoc l hlt, sumW_snoc, ← wrapS hlt (by omega)]; rfl
  have he : i = l.length := by simp only [decide_eq_false_iff_not] at hlt; omega
  subst he
  have h64 := h.le64
  refine VOK_lt (run_gtr ..) rfl (VOK_ite rfl (fun h => ?_) (fun _ => ?_))
  · rw [List.take_length] at h
    simp only [decide_eq_true_eq] at h; omega
  -- no name twice
  refine VOK_loop (ι := Nat) (fun i => [.int .i64 i]) (fun i => i ≤ l.length) (fun i => l.length - i) 0 (Nat.zero_le _) rfl
    (fun i _ => rfl) (fun i j _ _ h => ?_) (fun i hi => ?_)
  · simp at h; have h : i = j := by omega
    rw [h]
  refine VOK_lt (len22 l) rfl (VOK_lt (run_lss ..) rfl (VOK_ite rfl (fun hlt => ?_) (fun hlt => VOK_done rfl)))
  have hlt : i < l.length := by simp only [decide_eq_true_eq] at hlt; omega
  refine VOK_loop (ι := Nat) (fun k => [.int .i64 k]) (fun k => k ≤ i) (fun k => i - k) 0 (Nat.zero_le _) rfl
    (fun i _ => rfl) (fun i j _ _ h => ?_) (fun k hk => ?_)
  · simp at h; have h : i = j := by omega
    rw [h]
  refine VOK_lt (run_lss ..) rfl (VOK_ite rfl (fun hkl => ?_) (fun hkl => VOK_lt (run_add ..) rfl (VOK_again rfl ⟨i + 1, hlt, ?_, by omega⟩)))
  · have hki : k < i := by simp only [decide_eq_true_eq] at hkl; omega
    have hkl : k < l.length := by omega
    have hne : l[i].name ≠ l[k].name := fun e => by
      have hn := List.pairwise_iff_getElem.1 h.nodup k i (by simpa using hkl) (by simpa using hlt) hki
      exact hn (by simp [e])
    refine VOK_lt (ia22' hlt) (okRow okVar l[i] _) (VOK_lt (fa39_0 ..) (encL_ok okVar (l.drop (i + 1))) (VOK_lt (ld9x ..) rfl (VOK_lt (ia22' hkl) (okRow okVar l[k] _) (VOK_lt (fa39_0 ..) (encL_ok okVar (l.drop (k + 1))) (VOK_lt (ld9x ..) rfl (VOK_lt (run_eqs ..) rfl (VOK_ite rfl (fun h => ?_) (fun _ => VOK_lt (run_add ..) rfl (VOK_again rfl ⟨k + 1, hki, ?_, by omega⟩)))))))))
    · exact absurd (of_decide_eq_true h) hne
    · rw [← wrapS hkl (by omega)]; rfl
  · rw [← wrapS hlt (by omega)]; rfl
def c21 : VC := ⟨⟨[], []⟩, [(26, [none]), (27, [none])], [(0, [⟨[(6, .slx 0 0 0), (0, .sym 64), (5, .slx 1 0 0), (4, .slx 0 1 2)], [], 1, 3, [⟨0, 1, 2, 4, none⟩], []⟩])]⟩
def t21 : VT :=
 (.call 26 [.sym 64] 65 [none]
 (.lt (.bin .neq 43 false true) [.sym 65, .int .i64 0] 66 none
 (.ite 66
  (.done (.tup [.nsl, .int .i64 0]))
  (.loop 67 0 [.int .i64 0, .int .i64 0, .nsl]
   (.cons 3
   (.lt (.len 22) [.sym 64] 70 none
   (.lt (.bin .lss 3 false false) [.sym 67, .sym 70] 71 none
   (.ite 71
    (.lt (.app 1 8) [.sym 69, .agg [.sym 68]] 72 none
    (.lt (.iaddr 22) [.sym 64, .sym 67] 73 none
    (.lt (.load 39) [.sym 73] 74 (some 10)
    (.call 27 [.agg [.sym 74, .sym 75, .sym 76, .sym 77, .sym 78, .sym 79, .sym 80, .sym 81, .sym 82, .sym 83]] 84 [none]
    (.lt (.bin .add 3 false false) [.sym 68, .sym 84] 85 none
    (.lt (.bin .add 3 false true) [.sym 67, .int .i64 1] 86 none
    (.again 0 0 [.sym 86, .sym 85, .sym 72])))))))
    (.done (.tup [.sym 69, .sym 68])))))
   .nil)))))
theorem p21 (l : List GVar) (h : Own l) : Pure Tryd.prog 21 [vrs l] (.tup [ints (addrsF l 0), .int .i64 (sumW l 0)]) := by
  have h12 := h.le
  have hall := h.all
  refine pure_shape (sh := [none]) (ls := [vrs l]) (c := c21) (n := 300) (t := t21) mo ov rfl (okC1 (okVrs l)) (by simp [noRef, noRefL, okC_noRef (okInts _)]) (fun Y _ => known0 _) rfl (by kernel_rfl) fun Y hf hg => ?_
  unfold t21
  refine VOK_call (p26 l h) rfl rfl (VOK_lt (run_neq ..) rfl (VOK_ite rfl (fun h => by cases h) (fun _ => ?_)))
  refine VOK_loop (ι := Nat) (fun i => [.int .i64 i, .int .i64 (sumW (l.take i) 0), ints (addrsF (l.take i) 0)]) (fun i => i ≤ l.length) (fun i => l.length - i) 0 (Nat.zero_le _) rfl
    (fun i _ => by simp only [okL, okC, okInts]) (fun i j _ _ h => ?_) (fun i hi => ?_)
  · simp at h; have h : i = j := by omega
    rw [h]
  refine VOK_lt (len22 l) rfl (VOK_lt (run_lss ..) rfl (VOK_ite rfl (fun hlt => ?_) (fun hlt => VOK_done ?_)))
  · have hlt : i < l.length := by simp only [decide_eq_true_eq] at hlt; omega
    have hmv : mayVar l[i] = true := by rw [List.all_eq_true] at hall; exact hall _ (List.getElem_mem hlt)
    refine VOK_lt (app1_8 _ _ (by rw [addrsF_len, List.length_take]; omega)) (okInts _) (VOK_lt (ia22 hlt) (encL_ok okVar _) (VOK_ltN (ld39 hlt) rfl rfl (VOK_call (p27 l[i] hmv) rfl rfl (VOK_lt (run_add ..) rfl (VOK_lt (run_add ..) rfl (VOK_again rfl ⟨i + 1, hlt, ?_, by omega⟩))))))
    rw [take_snoc l hlt, sumW_snoc, addrsF_snoc, ← wrapS hlt (by omega)]; rfl
  · have he : i = l.length := by simp only [decide_eq_false_iff_not] at hlt; omega
    subst he
    show AV.tup [ints (addrsF (l.take l.length) 0), .int .i64 (sumW (l.take l.length) 0)] = _
    rw [List.take_length]
def c14 : VC := ⟨⟨[], []⟩, [(26, [none]), (22, [none]), (23, [none]), (18, [(some 3)]), (27, [none])], [(0, [⟨[(4, .slx 0 0 0), (3, .slx 0 3 1), (0, .sym 64)], [], 1, 2, [⟨0, 3, 1, 3, none⟩], []⟩]), (2, [⟨[(6, .slx 0 0 0), (5, .sym 79), (3, .slx 0 3 1), (4, .sym 67), (0, .sym 64)], [], 1, 2, [⟨0, 3, 1, 3, none⟩], []⟩]), (4, [⟨[(7, .slx 0 0 0), (4, .sym 67), (0, .sym 64), (3, .slx 0 3 1)], [], 1, 2, [⟨0, 3, 1, 3, none⟩], []⟩])]⟩
def t14 : VT :=
 (.call 26 [.sym 64] 65 [none]
 (.lt (.bin .neq 43 false true) [.sym 65, .int .i64 0] 66 none
 (.ite 66
  (.done (.nsl))
  (.loop 67 0 [.int .i64 0, .nsl]
   (.cons 2
   (.lt (.len 22) [.sym 64] 69 none
   (.lt (.bin .lss 3 false false) [.sym 67, .sym 69] 70 none
   (.ite 70
    (.lt (.iaddr 22) [.sym 64, .sym 67] 71 none
    (.lt (.faddr 39 2) [.sym 71] 72 none
    (.lt (.load 3) [.sym 72] 73 none
    (.call 22 [.sym 73] 74 [none]
    (.lt (.bin .gtr 3 false true) [.sym 74, .int .i64 1] 75 none
    (.ite 75
     (.lt (.iaddr 22) [.sym 64, .sym 67] 76 none
     (.lt (.faddr 39 2) [.sym 76] 77 none
     (.lt (.load 3) [.sym 77] 78 none
     (.call 23 [.sym 78] 79 [none]
     (.loop 80 0 [.int .i64 0, .sym 68]
      (.cons 2
      (.lt (.len 49) [.sym 79] 82 none
      (.lt (.bin .lss 3 false false) [.sym 80, .sym 82] 83 none
      (.ite 83
       (.lt (.iaddr 49) [.sym 79, .sym 80] 84 none
       (.lt (.load 3) [.sym 84] 85 none
       (.call 18 [.sym 85] 86 [(some 3)]
       (.lt (.app 3 24) [.sym 81, .agg [.sym 86, .sym 87, .sym 88]] 89 none
       (.lt (.bin .add 3 false true) [.sym 80, .int .i64 1] 90 none
       (.again 1 0 [.sym 90, .sym 89]))))))
       (.lt (.bin .add 3 false true) [.sym 67, .int .i64 1] 84 none
       (.again 0 0 [.sym 84, .sym 81])))))
      .nil))))))
     (.loop 76 0 [.int .i64 0, .sym 68]
      (.cons 2
      (.lt (.iaddr 22) [.sym 64, .sym 67] 78 none
      (.lt (.load 39) [.sym 78] 79 (some 10)
      (.call 27 [.agg [.sym 79, .sym 80, .sym 81, .sym 82, .sym 83, .sym 84, .sym 85, .sym 86, .sym 87, .sym 88]] 89 [none]
      (.lt (.bin .lss 3 false false) [.sym 76, .sym 89] 90 none
      (.ite 90
       (.lt (.iaddr 22) [.sym 64, .sym 67] 91 none
       (.lt (.faddr 39 4) [.sym 91] 92 none
       (.lt (.load 37) [.sym 92] 93 (some 3)
       (.lt (.app 3 24) [.sym 77, .agg [.sym 93, .sym 94, .sym 95]] 96 none
       (.lt (.bin .add 3 false true) [.sym 76, .int .i64 1] 97 none
       (.again 1 0 [.sym 97, .sym 96]))))))
       (.lt (.bin .add 3 false true) [.sym 67, .int .i64 1] 91 none
       (.again 0 0 [.sym 91, .sym 77])))))))
      .nil))))))))
    (.done (.sym 68)))))
   .nil)))))
theorem p14 (l : List GVar) (h : Own l) : Pure Tryd.prog 14 [vrs l] (vals (firstF l)) := by
  have h12 := h.le
  have hall := h.all
  refine pure_shape (sh := [none]) (ls := [vrs l]) (c := c14) (n := 300) (t := t14) mo ov rfl (okC1 (okVrs l)) (okC_noRef (okVals _)) (fun Y _ => known0 _) rfl (by kernel_rfl) fun Y hf hg => ?_
  unfold t14
  refine VOK_call (p26 l h) rfl rfl (VOK_lt (run_neq ..) rfl (VOK_ite rfl (fun h => by cases h) (fun _ => ?_)))
  refine VOK_loop (ι := Nat) (fun i => [.int .i64 i, vals (firstF (l.take i))]) (fun i => i ≤ l.length) (fun i => l.length - i) 0 (Nat.zero_le _) rfl
    (fun i _ => by simp only [okL, okC, okVals]) (fun i j _ _ h => ?_) (fun i hi => ?_)
  · simp at h; have h : i = j := by omega
    rw [h]
  have hfl : (firstF (l.take i)).length ≤ 8 * 12 := by
    have h1 := firstF_le (l.take i) (all_take hall i)
    have h2 : (l.take i).length ≤ 12 := by rw [List.length_take]; omega
    omega
  refine VOK_lt (len22 l) rfl (VOK_lt (run_lss ..) rfl (VOK_ite rfl (fun hlt => ?_) (fun hlt => VOK_done ?_)))
  rotate_left
  · have he : i = l.length := by simp only [decide_eq_false_iff_not] at hlt; omega
    subst he
    show vals (firstF (l.take l.length)) = _
    rw [List.take_length]
  have hlt : i < l.length := by simp only [decide_eq_true_eq] at hlt; omega
  have hmv : mayVar l[i] = true := by rw [List.all_eq_true] at hall; exact hall _ (List.getElem_mem hlt)
  obtain ⟨hs1, hs2⟩ := size_le hmv
  obtain ⟨_, hc0, _⟩ := may_facts hmv
  have hcl := cells_le l[i].kind
  refine VOK_lt (ia22' hlt) (okRow okVar l[i] _) (VOK_lt (fa39_2 ..) (encL_ok okVar (l.drop (i + 1))) (VOK_lt (ld3 ..) rfl (VOK_call (p22 l[i].kind) rfl rfl (VOK_lt (run_gtr ..) rfl (VOK_ite rfl (fun hk => ?_) (fun hk => ?_))))))
  · have hk' : 1 < (cellsOf l[i].kind).length := by simp only [decide_eq_true_eq] at hk; omega
    have hnv : isValue l[i].kind = false := by
      cases hv : isValue l[i].kind with
      | false => rfl
      | true => have := (value_one _).1 hv; omega
    have hfo : firstOf l[i] = (blockR l[i].kind).map zeroOf := by rw [blockR_eq hk']; unfold firstOf; rw [hnv]; rfl
    have hbl : (blockR l[i].kind).length ≤ 4 := by rw [blockR_eq hk']; exact hcl
    refine VOK_lt (ia22' hlt) (okRow okVar l[i] _) (VOK_lt (fa39_2 ..) (encL_ok okVar (l.drop (i + 1))) (VOK_lt (ld3 ..) rfl (VOK_call (p23 l[i].kind) rfl (okC1 (okInts _)) ?_)))
    refine VOK_loop (ι := Nat) (fun j => [.int .i64 j, vals (firstF (l.take i) ++ ((blockR l[i].kind).take j).map zeroOf)]) (fun j => j ≤ (blockR l[i].kind).length) (fun j => (blockR l[i].kind).length - j) 0 (Nat.zero_le _) (by simp only [List.take_zero, List.map_nil, List.append_nil]; rfl)
      (fun i _ => by simp only [okL, okC, okVals]) (fun i j _ _ h => ?_) (fun j hj => ?_)
    · simp at h; have h : i = j := by omega
      rw [h]
    refine VOK_lt (len49 _) rfl (VOK_lt (run_lss ..) rfl (VOK_ite rfl (fun hjl => ?_) (fun hjl => ?_)))
    · have hjl : j < (blockR l[i].kind).length := by simp only [decide_eq_true_eq] at hjl; omega
      refine VOK_lt (ia49 hjl) (encL_ok okI1 _) (VOK_lt (ld3i hjl) rfl (VOK_call (p18 (blockR l[i].kind)[j]) rfl rfl (VOK_lt (app3_24 _ _ (by rw [List.length_append, List.length_map, List.length_take]; omega)) (okVals _) (VOK_lt (run_add ..) rfl (VOK_again rfl ⟨j + 1, hjl, ?_, by omega⟩)))))
      rw [List.take_succ_eq_append_getElem hjl, List.map_append, ← wrapS hjl (by omega), ← List.append_assoc]; rfl
    · have he : j = (blockR l[i].kind).length := by simp only [decide_eq_false_iff_not] at hjl; omega
      subst he
      refine VOK_lt (run_add ..) rfl (VOK_again rfl ⟨i + 1, hlt, ?_, by omega⟩)
      rw [take_snoc l hlt, firstF_snoc, hfo, ← wrapS hlt (by omega)]
      show [AV.int .i64 _, vals (firstF (l.take i) ++ ((blockR l[i].kind).take (blockR l[i].kind).length).map zeroOf)] = _
      rw [List.take_length]
  · have hk' : (cellsOf l[i].kind).length = 1 := by simp only [decide_eq_false_iff_not] at hk; omega
    have hv : isValue l[i].kind = true := (value_one _).2 (by rw [hk']; rfl)
    have hfo : firstOf l[i] = List.replicate (sizeOf1 l[i]) l[i].first := by unfold firstOf; rw [hv]; rfl
    have hwf := wid_first hmv
    have hfl2 := firstOf_le hmv
    have hw : wid l[i] = ((sizeOf1 l[i] : Nat) : Int) := by rw [hwf, hfo, List.length_replicate]
    have hm8 : sizeOf1 l[i] ≤ 8 := by rw [hfo, List.length_replicate] at hfl2; exact hfl2
    generalize hm : sizeOf1 l[i] = m at hw hfo hm8
    refine VOK_loop (ι := Nat) (fun j => [.int .i64 j, vals (firstF (l.take i) ++ List.replicate j l[i].first)]) (fun j => j ≤ m) (fun j => m - j) 0 (Nat.zero_le _) (by simp only [List.replicate_zero, List.append_nil]; rfl)
      (fun i _ => by simp only [okL, okC, okVals]) (fun i j _ _ h => ?_) (fun j hj => ?_)
    · simp at h; have h : i = j := by omega
      rw [h]
    have p27' := p27 l[i] hmv
    rw [hw] at p27'
    refine VOK_lt (ia22 hlt) (encL_ok okVar _) (VOK_ltN (ld39 hlt) rfl rfl (VOK_call p27' rfl rfl (VOK_lt (run_lss ..) rfl (VOK_ite rfl (fun hjl => ?_) (fun hjl => ?_)))))
    · have hjl : j < m := by simp only [decide_eq_true_eq] at hjl; omega
      refine VOK_lt (ia22' hlt) (okRow okVar l[i] _) (VOK_lt (fa39_4 ..) (encL_ok okVar (l.drop (i + 1))) (VOK_ltN (ld37 ..) rfl rfl (VOK_lt (app3_24 _ _ (by rw [List.length_append, List.length_replicate]; omega)) (okVals _) (VOK_lt (run_add ..) rfl (VOK_again rfl ⟨j + 1, hjl, ?_, by omega⟩)))))
      have e : firstF (l.take i) ++ List.replicate (j + 1) l[i].first = firstF (l.take i) ++ List.replicate j l[i].first ++ [l[i].first] := by rw [List.replicate_succ', List.append_assoc]
      rw [e, ← wrapS hjl (by omega)]; rfl
    · have he : j = m := by simp only [decide_eq_false_iff_not] at hjl; omega
      subst he
      refine VOK_lt (run_add ..) rfl (VOK_again rfl ⟨i + 1, hlt, ?_, by omega⟩)
      rw [take_snoc l hlt, firstF_snoc, hfo, ← wrapS hlt (by omega)]; rfl
end Go.Proofs.YtbceomdmpbmnkaaDoor.vars
/-
  What the document's tags are, by their tree.
-/
set_option maxRecDepth 100000
set_option linter.unusedVariables false
set_option linter.unusedSimpArgs false
namespace Go.Proofs.YtbceomdmpbmnkaaDoor.vars
open Go Go.Sx
def c11 : VC := ⟨⟨[], []⟩, [(21, [none, none]), (22, [none]), (23, [none])], [(0, [⟨[(6, .slx 0 0 0), (5, .slx 0 4 1), (3, .sym 65), (0, .sym 64)], [], 1, 2, [⟨0, 4, 1, 5, none⟩], []⟩]), (3, [⟨[(9, .slx 0 0 0), (5, .slx 3 4 1), (8, .ptr 2 0), (7, .ptr 1 0), (6, .sym 67), (3, .sym 65), (0, .sym 64)], [(2, [.sym 72, .sym 83, .sym 74, .sym 73]), (1, [.sym 72, .sym 73, .sym 74, .sym 75, .sym 76, .sym 77, .sym 78, .sym 79, .sym 80, .sym 81])], 4, 2, [⟨3, 4, 1, 5, none⟩], []⟩])]⟩
def t11 : VT :=
 (.call 21 [.sym 64] 65 [none, none]
 (.loop 67 0 [.int .i64 0, .nsl]
  (.cons 2
  (.lt (.len 49) [.sym 65] 69 none
  (.lt (.bin .lss 3 false false) [.sym 67, .sym 69] 70 none
  (.ite 70
   (.lt (.iaddr 22) [.sym 64, .sym 67] 71 none
   (.lt (.load 39) [.sym 71] 72 (some 10)
   (.lt (.iaddr 49) [.sym 65, .sym 67] 82 none
   (.lt (.load 3) [.sym 82] 83 none
   (.lt (.bin .gtr 3 false true) [.sym 75, .int .i64 0] 84 none
   (.ite 84
    (.loop 85 0 [.int .i64 0, .sym 68]
     (.cons 2
     (.lt (.bin .lss 3 false false) [.sym 85, .sym 75] 87 none
     (.ite 87
      (.lt (.bin .add 9 false true) [.sym 72, .str [91]] 88 none
      (.lt (.bin .add 3 true false) [.int .i64 48, .sym 85] 89 none
      (.lt (.conv 3 5) [.sym 89] 90 none
      (.lt (.conv 53 9) [.vsl 1 1 [.sym 90]] 91 none
      (.lt (.bin .add 9 false false) [.sym 88, .sym 91] 92 none
      (.lt (.bin .add 9 false true) [.sym 92, .str [93]] 93 none
      (.lt (.bin .add 3 false false) [.sym 83, .sym 85] 94 none
      (.lt (.app 4 40) [.sym 86, .agg [.sym 93, .sym 94, .sym 74, .sym 73]] 95 none
      (.lt (.bin .add 3 false true) [.sym 85, .int .i64 1] 96 none
      (.again 1 0 [.sym 96, .sym 95]))))))))))
      (.lt (.bin .add 3 false true) [.sym 67, .int .i64 1] 88 none
      (.again 0 0 [.sym 88, .sym 86]))))
     .nil))
    (.call 22 [.sym 74] 85 [none]
    (.lt (.bin .eql 3 false true) [.sym 85, .int .i64 1] 86 none
    (.ite 86
     (.lt (.app 4 40) [.sym 68, .agg [.sym 72, .sym 83, .sym 74, .sym 73]] 87 none
     (.lt (.bin .add 3 false true) [.sym 67, .int .i64 1] 88 none
     (.again 0 0 [.sym 88, .sym 87])))
     (.lt (.bin .add 9 false true) [.sym 72, .str [46, 113]] 87 none
     (.lt (.app 4 40) [.sym 68, .agg [.sym 87, .sym 83, .int .i64 1, .sym 73]] 88 none
     (.call 23 [.sym 74] 89 [none]
     (.lt (.iaddr 49) [.sym 89, .int .i64 1] 90 none
     (.lt (.load 3) [.sym 90] 91 none
     (.lt (.bin .eql 3 false true) [.sym 91, .int .i64 1] 92 none
     (.ite 92
      (.lt (.bin .add 3 false true) [.sym 67, .int .i64 1] 93 none
      (.again 0 0 [.sym 93, .sym 88]))
      (.lt (.bin .add 9 false true) [.sym 72, .str [46, 101, 116]] 93 none
      (.lt (.bin .add 3 false true) [.sym 83, .int .i64 1] 94 none
      (.lt (.bin .eql 3 false true) [.sym 91, .int .i64 2] 95 none
      (.ite 95
       (.lt (.bin .add 9 false true) [.sym 72, .str [46, 99, 118]] 96 none
       (.lt (.app 4 40) [.sym 88, .agg [.sym 96, .sym 94, .sym 91, .sym 73]] 97 none
       (.lt (.bin .add 3 false true) [.sym 67, .int .i64 1] 98 none
       (.again 0 0 [.sym 98, .sym 97]))))
       (.lt (.app 4 40) [.sym 88, .agg [.sym 93, .sym 94, .sym 91, .sym 73]] 96 none
       (.lt (.bin .add 3 false true) [.sym 67, .int .i64 1] 97 none
       (.again 0 0 [.sym 97, .sym 96])))))))))))))))))))))))
   (.done (.sym 68)))))
  .nil)))
theorem run_digit (k : Nat) (h : k < 8) : (XOp.conv 53 9).run Tryd.prog [.vsl 1 1 [.int .u8 (IntKind.u8.wrap (IntKind.i64.wrap (48 + (k : Int))))]] = some (.str (digit k)) := by
  rcases (by omega : k = 0 ∨ k = 1 ∨ k = 2 ∨ k = 3 ∨ k = 4 ∨ k = 5 ∨ k = 6 ∨ k = 7) with rfl | rfl | rfl | rfl | rfl | rfl | rfl | rfl
  all_goals kernel_rfl
/-- a kind of a block -/
theorem block_kind {v : GVar} (h : mayVar v = true) (hv : isValue v.kind = false) : v.kind = 6 ∨ v.kind = 7 ∨ v.kind = 8 ∨ v.kind = 9 ∨ v.kind = 10 ∨ v.kind = 11 ∨ v.kind = 12 := by
  obtain ⟨_, h0, _⟩ := may_facts h
  have := cells_len v.kind
  unfold isValue at hv
  simp only [Bool.and_eq_false_iff, decide_eq_false_iff_not] at hv
  rw [if_neg (by omega)] at this
  repeat' (split at this)
  all_goals omega
theorem names_value {k : Int} (h : isValue k = true) : namesOf k = [] := by
  unfold isValue at h
  simp only [Bool.and_eq_true, decide_eq_true_eq] at h
  unfold namesOf
  repeat' split
  all_goals first
    | rfl
    | (exfalso; omega)
theorem tags_row {v : GVar} (h : mayVar v = true) (hs : 0 < v.size) (a : Int) : tagsOf v a = (List.range v.size.toNat).map (cellTag v a) := by
  obtain ⟨_, _, _, _, h3, _⟩ := may_facts h
  have hv : isValue v.kind = true := by
    cases hv : isValue v.kind with
    | true => rfl
    | false => have := h3 hv; omega
  unfold tagsOf
  rw [names_value hv, if_neg (by simp), if_neg (by omega)]
theorem tags_one {v : GVar} (hv : isValue v.kind = true) (hs : v.size = 0) (a : Int) : tagsOf v a = [⟨v.name, a, v.kind, v.role⟩] := by
  unfold tagsOf
  rw [names_value hv, if_neg (by simp), if_pos hs]
theorem blockR_len (k : Int) : 1 < (blockR k).length := by
  unfold blockR
  repeat' split
  all_goals simp
theorem tags_block {v : GVar} {a : Int} (ha : 0 ≤ a ∧ a ≤ 1000) (hk : v.kind = 6 ∨ v.kind = 7 ∨ v.kind = 8 ∨ v.kind = 9 ∨ v.kind = 10 ∨ v.kind = 11 ∨ v.kind = 12) :
    ((blockR v.kind)[1]'(blockR_len _) = 1 → tagsOf v a = [⟨v.name ++ [46, 113], a, 1, v.role⟩]) ∧
    ((blockR v.kind)[1]'(blockR_len _) = 2 → tagsOf v a = [⟨v.name ++ [46, 113], a, 1, v.role⟩, ⟨v.name ++ [46, 99, 118], IntKind.i64.wrap (a + 1), 2, v.role⟩]) ∧
    (¬ (blockR v.kind)[1]'(blockR_len _) = 1 → ¬ (blockR v.kind)[1]'(blockR_len _) = 2 → (blockR v.kind)[1]'(blockR_len _) = 4 ∧ tagsOf v a = [⟨v.name ++ [46, 113], a, 1, v.role⟩, ⟨v.name ++ [46, 101, 116], IntKind.i64.wrap (a + 1), 4, v.role⟩]) := by
  obtain ⟨name, role, kind, size, first, safe⟩ := v
  simp only at hk ⊢
  have ha0 : w64 (a + ((0 : Nat) : Int)) = a := by
    show IntKind.i64.wrap (a + 0) = a
    rw [Int.add_zero, wrap64 (x := a) (by omega) (by omega)]
  have hw0 : IntKind.i64.wrap a = a := wrap64 (by omega) (by omega)
  have hr2 : List.range 2 = [0, 1] := rfl
  have hr1 : List.range 1 = [0] := rfl
  rcases hk with rfl | rfl | rfl | rfl | rfl | rfl | rfl
  all_goals
    refine ⟨fun h => ?_, fun h => ?_, fun h h' => ?_⟩
    all_goals first
      | (exfalso; simp [blockR] at h; done)
      | (exfalso; simp [blockR] at h'; done)
      | skip
  all_goals (try refine ⟨rfl, ?_⟩)
  all_goals (simp [tagsOf, namesOf, kindsOf, nameTag, hr2, hr1, hw0, w64])
theorem p11 (l : List GVar) (h : Own l) : Pure Tryd.prog 11 [vrs l] (tags (tagsF l 0)) := by
  have h12 := h.le
  have hall := h.all
  refine pure_shape (sh := [none]) (ls := [vrs l]) (c := c11) (n := 300) (t := t11) mo ov rfl (okC1 (okVrs l)) (okC_noRef (okTags _)) (fun Y _ => known0 _) rfl (by kernel_rfl) fun Y hf hg => ?_
  unfold t11
  refine VOK_call (p21 l h) rfl (by simp only [okL, okC, okInts]) ?_
  refine VOK_loop (ι := Nat) (fun i => [.int .i64 i, tags (tagsF (l.take i) 0)]) (fun i => i ≤ l.length) (fun i => l.length - i) 0 (Nat.zero_le _) rfl
    (fun i _ => by simp only [okL, okC, okTags]) (fun i j _ _ h => ?_) (fun i hi => ?_)
  · simp at h; have h : i = j := by omega
    rw [h]
  have hl49 : (XOp.len 49).run Tryd.prog [ints (addrsF l 0)] = some (.int .i64 (l.length : Int)) := by rw [len49, addrsF_len]
  refine VOK_lt hl49 rfl (VOK_lt (run_lss ..) rfl (VOK_ite rfl (fun hlt => ?_) (fun hlt => VOK_done ?_)))
  rotate_left
  · have he : i = l.length := by simp only [decide_eq_false_iff_not] at hlt; omega
    subst he
    show tags (tagsF (l.take l.length) 0) = _
    rw [List.take_length]
  have hlt : i < l.length := by simp only [decide_eq_true_eq] at hlt; omega
  have hla : i < (addrsF l 0).length := by rw [addrsF_len]; exact hlt
  have hmv : mayVar l[i] = true := by rw [List.all_eq_true] at hall; exact hall _ (List.getElem_mem hlt)
  obtain ⟨hs1, hs2⟩ := size_le hmv
  have hat := addrs_at l 0 i hla
  have h3 : (l.take i).length ≤ 12 := by rw [List.length_take]; omega
  have h1 := tagsF_le (l.take i) 0 (all_take hall i)
  have hnl := name_le hmv
  have hsum := h.sumT i
  have hfl := firstF_le (l.take i) (all_take hall i)
  have hld : (XOp.load 3).run Tryd.prog [.vptr (encL encI ((addrsF l 0).drop i))] = some (.int .i64 (sumW (l.take i) 0)) := by rw [ld3i hla, hat]
  have hsn : tagsF (l.take (i + 1)) 0 = tagsF (l.take i) 0 ++ tagsOf l[i] (sumW (l.take i) 0) := by rw [take_snoc l hlt, tagsF_snoc]
  have hinc : (XOp.bin .add 3 false true).run Tryd.prog [.int .i64 (i : Int), .int .i64 1] = some (.int .i64 ((i + 1 : Nat) : Int)) := by rw [run_add, wrapS hlt (by omega)]
  have ha : 0 ≤ sumW (l.take i) 0 ∧ sumW (l.take i) 0 ≤ 1000 := by omega
  generalize hA : sumW (l.take i) 0 = a at *
  generalize hT : tagsF (l.take i) 0 = T at *
  have hT0 : T.length ≤ 96 := by omega
  refine VOK_lt (ia22 hlt) (encL_ok okVar _) (VOK_ltN (ld39 hlt) rfl rfl (VOK_lt (ia49 hla) (encL_ok okI1 _) (VOK_lt hld rfl (VOK_lt (run_gtr ..) rfl ?_))))
  generalize hv : l[i] = v at *
  refine VOK_ite rfl (fun hs => ?_) (fun hs => VOK_call (p22 v.kind) rfl rfl (VOK_lt (run_eql ..) rfl (VOK_ite rfl (fun hk => ?_) (fun hk => ?_))))
  · -- a row
    have hs' : 0 < v.size := by simpa using hs
    rw [tags_row hmv hs' a] at hsn
    obtain ⟨m, hm⟩ : ∃ m : Nat, v.size = m := ⟨v.size.toNat, by omega⟩
    have hm2 : v.size.toNat = m := by omega
    rw [hm2] at hsn
    refine VOK_loop (ι := Nat) (fun k => [.int .i64 k, tags (T ++ (List.range k).map (cellTag v a))]) (fun k => k ≤ m) (fun k => m - k) 0 (Nat.zero_le _) (by simp only [List.range_zero, List.map_nil, List.append_nil]; rfl)
      (fun i _ => by simp only [okL, okC, okTags]) (fun i j _ _ h => ?_) (fun k hk => ?_)
    · simp at h; have h : i = j := by omega
      rw [h]
    refine VOK_lt (run_lss ..) rfl (VOK_ite rfl (fun hkl => ?_) (fun hkl => ?_))
    · have hkl : k < m := by simp only [decide_eq_true_eq] at hkl; omega
      refine VOK_lt (run_adds _ _ _ v.name [91] (by simp; omega)) rfl (VOK_lt (run_add ..) rfl (VOK_lt (cv_int Tryd.underlying3 Tryd.underlying5 _) rfl (VOK_lt (run_digit k (by omega)) rfl ?_)))
      refine VOK_lt (run_adds _ _ _ _ (digit k) (by simp [digit]; omega)) rfl (VOK_lt (run_adds _ _ _ _ [93] (by simp [digit]; omega)) rfl (VOK_lt (run_add ..) rfl ?_))
      refine VOK_lt (r := tags (T ++ (List.range k).map (cellTag v a) ++ [cellTag v a k])) (app4_40 _ (cellTag v a k) (by simp; omega)) (okTags _) (VOK_lt (run_add ..) rfl (VOK_again rfl ⟨k + 1, hkl, ?_, by omega⟩))
      rw [map_range_succ, ← wrapS hkl (by omega), ← List.append_assoc]; rfl
    · have he : k = m := by simp only [decide_eq_false_iff_not] at hkl; omega
      subst he
      refine VOK_lt hinc rfl (VOK_again rfl ⟨i + 1, hlt, ?_, by omega⟩)
      rw [hsn]; rfl
  · -- one cell
    have hs' : v.size = 0 := by
      have : ¬ 0 < v.size := by simpa using hs
      omega
    have hvv : isValue v.kind = true := (value_one _).2 (by simpa using hk)
    rw [tags_one hvv hs' a] at hsn
    refine VOK_lt (app4_40 T ⟨v.name, a, v.kind, v.role⟩ (by omega)) (okTags _) (VOK_lt hinc rfl (VOK_again rfl ⟨i + 1, hlt, ?_, by omega⟩))
    rw [hsn]; rfl
  · -- a block
    have hvv : isValue v.kind = false := by
      cases hv : isValue v.kind with
      | false => rfl
      | true => have := (value_one _).1 hv; rw [this] at hk; simp at hk
    obtain ⟨t1, t2, t3⟩ := tags_block ha (block_kind hmv hvv)
    have hb := blockR_len v.kind
    refine VOK_lt (run_adds _ _ _ v.name [46, 113] (by simp; omega)) rfl (VOK_lt (app4_40 T ⟨v.name ++ [46, 113], a, 1, v.role⟩ (by omega)) (okTags _) (VOK_call (p23 v.kind) rfl (okC1 (okInts _)) (VOK_lt (ia49 hb) (encL_ok okI1 _) (VOK_lt (ld3i hb) rfl (VOK_lt (run_eql ..) rfl (VOK_ite rfl (fun hx => ?_) (fun hx => ?_)))))))
    · have hx' := t1 (by simpa using hx)
      rw [hx'] at hsn
      refine VOK_lt hinc rfl (VOK_again rfl ⟨i + 1, hlt, ?_, by omega⟩)
      rw [hsn]; rfl
    · have hx' : ¬ (blockR v.kind)[1] = 1 := by simpa using hx
      refine VOK_lt (run_adds _ _ _ v.name [46, 101, 116] (by simp; omega)) rfl (VOK_lt (run_add ..) rfl (VOK_lt (run_eql ..) rfl (VOK_ite rfl (fun hy => ?_) (fun hy => ?_))))
      · have hy' : (blockR v.kind)[1] = 2 := by simpa using hy
        have hz := t2 hy'
        rw [hz] at hsn
        refine VOK_lt (run_adds _ _ _ v.name [46, 99, 118] (by simp; omega)) rfl (VOK_lt (r := tags (T ++ [⟨v.name ++ [46, 113], a, 1, v.role⟩] ++ [⟨v.name ++ [46, 99, 118], IntKind.i64.wrap (a + 1), 2, v.role⟩])) ?_ (okTags _) (VOK_lt hinc rfl (VOK_again rfl ⟨i + 1, hlt, ?_, by omega⟩)))
        · rw [← hy']
          exact app4_40 _ ⟨v.name ++ [46, 99, 118], IntKind.i64.wrap (a + 1), (blockR v.kind)[1], v.role⟩ (by simp; omega)
        · rw [hsn, List.append_assoc]; rfl
      · have hy' : ¬ (blockR v.kind)[1] = 2 := by simpa using hy
        obtain ⟨h4, hz⟩ := t3 hx' hy'
        rw [hz] at hsn
        refine VOK_lt (r := tags (T ++ [⟨v.name ++ [46, 113], a, 1, v.role⟩] ++ [⟨v.name ++ [46, 101, 116], IntKind.i64.wrap (a + 1), 4, v.role⟩])) ?_ (okTags _) (VOK_lt hinc rfl (VOK_again rfl ⟨i + 1, hlt, ?_, by omega⟩))
        · rw [← h4]
          exact app4_40 _ ⟨v.name ++ [46, 101, 116], IntKind.i64.wrap (a + 1), (blockR v.kind)[1], v.role⟩ (by simp; omega)
        · rw [hsn, List.append_assoc]; rfl
end Go.Proofs.YtbceomdmpbmnkaaDoor.vars
/-
  The plain law of PathOnce: which paths, and which cells, tags have.
-/
set_option maxRecDepth 100000
set_option linter.unusedVariables false
set_option linter.unusedSimpArgs false
namespace Go.Proofs.YtbceomdmpbmnkaaDoor.vars
open Go Go.Sx
/-- a value's first is of its kind -/
theorem first_kind {v : GVar} (h : mayVar v = true) (hv : isValue v.kind = true) : v.first.kind = v.kind := by
  have hk : ∀ w k, ofKind w k = true → w.kind = k := fun w k h => by
    unfold ofKind at h
    simp only [Bool.and_eq_true, decide_eq_true_eq] at h; exact h.1
  unfold mayVar at h
  rw [if_neg (c := isValue v.kind = false) (by rw [hv]; exact fun h => by cases h)] at h
  repeat' (split at h <;> try (cases h; done))
  · exact hk _ _ h
  · exact hk _ _ h
/-- these tags are of these cells, the first one of which is cell n -/
structure Fit (T : List GTag) (M : List GVal) (n : Int) : Prop where
  asc : T.Pairwise fun s t => s.addr < t.addr
  cell : ∀ t ∈ T, ∃ k : Nat, t.addr = n + k ∧ ∃ x, M[k]? = some x ∧ x.kind = t.kind
theorem Fit.append {T T' : List GTag} {M M' : List GVal} {n n' : Int} (h : Fit T M n) (h' : Fit T' M' n') (hn : n' = n + (M.length : Int)) : Fit (T ++ T') (M ++ M') n where
  asc := by
    rw [List.pairwise_append]
    refine ⟨h.asc, h'.asc, fun s hs t ht => ?_⟩
    obtain ⟨k, e1, x, e2, _⟩ := h.cell s hs
    obtain ⟨k', e1', _⟩ := h'.cell t ht
    have : k < M.length := (List.getElem?_eq_some_iff.1 e2).1
    omega
  cell := fun t ht => by
    rcases List.mem_append.1 ht with ht | ht
    · obtain ⟨k, e1, x, e2, e3⟩ := h.cell t ht
      exact ⟨k, e1, x, by rw [List.getElem?_append_left (List.getElem?_eq_some_iff.1 e2).1]; exact e2, e3⟩
    · obtain ⟨k, e1, x, e2, e3⟩ := h'.cell t ht
      exact ⟨M.length + k, by omega, x, by rw [List.getElem?_append_right (by omega), Nat.add_sub_cancel_left]; exact e2, e3⟩
theorem fit_map {M : List GVal} {n : Int} (f : Nat → GTag) (m : Nat) (hm : m ≤ M.length) (h : ∀ i, i < m → (f i).addr = n + i ∧ ∃ x, M[i]? = some x ∧ x.kind = (f i).kind) : Fit ((List.range m).map f) M n where
  asc := by
    rw [List.pairwise_map]
    refine List.Pairwise.imp_of_mem (R := fun a b => a < b) (fun {a b} ha hb hab => ?_) List.pairwise_lt_range
    rw [(h a (List.mem_range.1 ha)).1, (h b (List.mem_range.1 hb)).1]; omega
  cell := fun t ht => by
    obtain ⟨i, hi, rfl⟩ := List.mem_map.1 ht
    exact ⟨i, (h i (List.mem_range.1 hi)).1, (h i (List.mem_range.1 hi)).2⟩
theorem fit_one {v : GVar} (h : mayVar v = true) {n : Int} (hn : 0 ≤ n ∧ n ≤ 1000) : Fit (tagsOf v n) (firstOf v) n := by
  obtain ⟨hs1, hs2⟩ := size_le h
  have hw : ∀ i : Nat, i < 8 → w64 (n + i) = n + i := fun i hi => by unfold w64; rw [wrap64 (x := n + (i : Int)) (by omega) (by omega)]
  cases hv : isValue v.kind with
  | true =>
    have hfo : firstOf v = List.replicate (sizeOf1 v) v.first := by unfold firstOf; rw [hv]; rfl
    have hfk := first_kind h hv
    by_cases hs : v.size = 0
    · rw [tags_one hv hs, hfo]
      have e1 : sizeOf1 v = 1 := by unfold sizeOf1; rw [hs]; rfl
      rw [e1]
      exact ⟨by simp, fun t ht => by
        simp only [List.mem_singleton] at ht
        subst ht
        exact ⟨0, by simp, v.first, rfl, hfk⟩⟩
    · rw [tags_row h (by omega), hfo]
      have e1 : sizeOf1 v = v.size.toNat := by unfold sizeOf1; omega
      rw [e1]
      refine fit_map _ _ (by rw [List.length_replicate]; exact Nat.le_refl _) fun i hi => ⟨hw i (by omega), v.first, ?_, hfk⟩
      rw [List.getElem?_replicate, if_pos hi]
  | false =>
    have hfo : firstOf v = (cellsOf v.kind).map zeroOf := by unfold firstOf; rw [hv]; rfl
    have hkk := block_kind h hv
    have hw0 := hw 0 (by omega)
    have hw1 := hw 1 (by omega)
    have hr2 : List.range 2 = [0, 1] := rfl
    have hr1 : List.range 1 = [0] := rfl
    rw [hfo]
    unfold tagsOf
    rcases hkk with e | e | e | e | e | e | e
    all_goals
      rw [e]
      rw [if_pos (by simp [namesOf])]
      refine fit_map _ _ (by simp [namesOf, cellsOf]) fun i hi => ?_
      simp only [namesOf, if_true, if_false, reduceIte, List.length_cons, List.length_nil] at hi
      unfold nameTag
      rw [e]
    all_goals first
      | (rcases (by simp at hi; omega : i = 0 ∨ i = 1) with rfl | rfl
         · exact ⟨hw0, _, rfl, rfl⟩
         · exact ⟨hw1, _, rfl, rfl⟩)
      | (rcases (by simp at hi; omega : i = 0) with rfl
         exact ⟨hw0, _, rfl, rfl⟩)
theorem fit_all : ∀ (l : List GVar) (n : Nat), l.all mayVar = true → n + 8 * l.length ≤ 1000 → Fit (tagsF l n) (firstF l) n
  | [], n, _, _ => ⟨by simp [tagsF], fun t ht => by simp [tagsF] at ht⟩
  | v :: r, n, h, hn => by
    simp only [List.all_cons, Bool.and_eq_true] at h
    simp only [List.length_cons] at hn
    have h1 := firstOf_le h.1
    have e : IntKind.i64.wrap ((n : Int) + wid v) = ((n + (firstOf v).length : Nat) : Int) := by
      rw [wid_first h.1, wrap64 (by omega) (by omega)]; omega
    simp only [tagsF, firstF, e]
    exact (fit_one h.1 (by omega)).append (fit_all r _ h.2 (by omega)) (by omega)
/-- a variable's paths, wherever it stands -/
def pathsOf (v : GVar) : List (List UInt8) :=
  if 0 < (namesOf v.kind).length then (List.range (namesOf v.kind).length).map fun i => v.name ++ [46] ++ (namesOf v.kind).getD i []
  else if v.size = 0 then [v.name] else (List.range v.size.toNat).map fun i => v.name ++ [91] ++ digit i ++ [93]
def pathsF : List GVar → List (List UInt8)
  | [] => []
  | v :: r => pathsOf v ++ pathsF r
theorem paths_one (v : GVar) (a : Int) : (tagsOf v a).map GTag.path = pathsOf v := by
  unfold tagsOf pathsOf
  split
  · rw [List.map_map]; rfl
  · split
    · rfl
    · rw [List.map_map]; rfl
theorem paths_all : ∀ (l : List GVar) (n : Int), (tagsF l n).map GTag.path = pathsF l
  | [], _ => rfl
  | v :: r, n => by simp only [tagsF, pathsF, List.map_append, paths_one, paths_all r]
theorem paths_sub {a b : List GVar} (h : a.Sublist b) : (pathsF a).Sublist (pathsF b) := by
  induction h with
  | slnil => exact List.Sublist.slnil
  | cons v _ ih => exact List.Sublist.trans ih (List.sublist_append_right _ _)
  | cons_cons v _ ih => exact (List.Sublist.refl _).append ih
theorem paths_play : (pathsF playV).Nodup := by decide +kernel
/-- what the law asks of tags and cells -/
structure Once (T : List GTag) (M : List GVal) : Prop where
  cell : ∀ i (h : i < T.length), ∃ k : Nat, T[i].addr = k ∧ ∃ hk : k < M.length, M[k].kind = T[i].kind
  path : ∀ i k (h : i < T.length) (hk : k < i), T[k].path ≠ T[i].path
  asc : ∀ i k (h : i < T.length) (hk : k < i), T[k].addr < T[i].addr
theorem once {l : List GVar} (h : l.Sublist playV) : Once (tagsF l 0) (firstF l) := by
  have ho := own_sub h
  have hf : Fit (tagsF l 0) (firstF l) 0 := fit_all l 0 ho.all (by have := ho.le; omega)
  refine ⟨fun i hi => ?_, fun i k hi hk => ?_, fun i k hi hk => ?_⟩
  · obtain ⟨k, e1, x, e2, e3⟩ := hf.cell _ (List.getElem_mem hi)
    obtain ⟨hk, e4⟩ := List.getElem?_eq_some_iff.1 e2
    exact ⟨k, by rw [e1]; simp, hk, by rw [e4]; exact e3⟩
  · have hn : (pathsF l).Nodup := List.Nodup.sublist (paths_sub h) paths_play
    rw [← paths_all l 0] at hn
    have := List.pairwise_iff_getElem.1 hn k i (by rw [List.length_map]; omega) (by rw [List.length_map]; exact hi) hk
    simpa using this
  · exact List.pairwise_iff_getElem.1 hf.asc k i (by omega) hi hk
end Go.Proofs.YtbceomdmpbmnkaaDoor.vars
/-
  The law PathOnce answers true, whichever variables are left out.
-/
set_option maxRecDepth 100000
set_option linter.unusedVariables false
set_option linter.unusedSimpArgs false
namespace Go.Proofs.YtbceomdmpbmnkaaDoor.vars
open Go Go.Sx
section
variable {Q : AV → Prop} {L : List (Nat → List AV → Prop)} {Y : Sy}
theorem VOK_iteF {i : Nat} {a b : VT} (h : Y.v i = some (.bool false)) (h2 : VOK Tryd.prog Q L Y b) : VOK Tryd.prog Q L Y (.ite i a b) := VOK_ite h (fun h => by cases h) (fun _ => h2)
theorem VOK_iteT {i : Nat} {a b : VT} (h : Y.v i = some (.bool true)) (h2 : VOK Tryd.prog Q L Y a) : VOK Tryd.prog Q L Y (.ite i a b) := VOK_ite h (fun _ => h2) (fun h => by cases h)
end
def bitF (g : Int) (i : Nat) : Int := IntKind.u16.wrap ((BitVec.ofInt IntKind.u16.bits (g.fdiv (2 ^ (min i IntKind.u16.bits))) &&& BitVec.ofInt IntKind.u16.bits 1).toNat : Nat)
theorem run_shr {t : TypeId} {cx cy : Bool} (g : Int) (i : Nat) : (XOp.bin .shr t cx cy).run Tryd.prog [.int .u16 g, .int .i64 (i : Int)] = some (.int .u16 (g.fdiv (2 ^ (min i IntKind.u16.bits)))) := by
  show evInt2 Tryd.prog .shr .u16 g .i64 (i : Int) = _
  have h : pureRun Tryd.prog (binOp .shr 0 (.int .u16 g) (.int .i64 (i : Int))) = some (.int .u16 (g.fdiv (2 ^ (min i IntKind.u16.bits)))) := by
    have hn : ¬ ((i : Int) < 0) := by omega
    show pureRun Tryd.prog (Op.shift .shr .u16 g .i64 (i : Int)) = _
    unfold Op.shift
    rw [if_neg hn]
    rfl
  unfold evInt2
  rw [h]; rfl
theorem run_and1 {t : TypeId} {cx cy : Bool} (g : Int) (i : Nat) : (XOp.bin .and t cx cy).run Tryd.prog [.int .u16 (g.fdiv (2 ^ (min i IntKind.u16.bits))), .int .u16 1] = some (.int .u16 (bitF g i)) := rfl
def selF (g : Int) : List GVar → Nat → List GVar
  | [], _ => []
  | v :: r, i => if bitF g i = 0 then v :: selF g r (i + 1) else selF g r (i + 1)
theorem selF_snoc (g : Int) (v : GVar) : ∀ (l : List GVar) (i : Nat), selF g (l ++ [v]) i = selF g l i ++ (if bitF g (i + l.length) = 0 then [v] else [])
  | [], i => by simp only [List.nil_append, selF, List.length_nil, Nat.add_zero]
  | a :: r, i => by
    simp only [List.cons_append, selF, selF_snoc g v r, List.length_cons]
    rw [show i + 1 + r.length = i + (r.length + 1) by omega]
    split <;> rfl
theorem selF_sub (g : Int) : ∀ (l : List GVar) (i : Nat), (selF g l i).Sublist l
  | [], _ => List.Sublist.slnil
  | v :: r, i => by
    unfold selF
    split
    · exact (selF_sub g r _).cons_cons v
    · exact (selF_sub g r _).cons v
theorem app10_88 (l : List GVar) (v : GVar) (hl : l.length ≤ 100000) : (XOp.app 10 88).run Tryd.prog [vrs l, .agg (encVar v)] = some (vrs (l ++ [v])) := run_app_sl (enc := encVar) lenVar (by decide) (by decide) l v (by omega)
theorem neq_self (t : TypeId) (cx cy : Bool) (k : IntKind) (a : Int) : (XOp.bin .neq t cx cy).run Tryd.prog [.int k a, .int k a] = some (.bool false) := by rw [run_neq]; simp
theorem p8 : Pure Tryd.prog 8 [] (.bool true) := memo_ok (n := 300) mo ov (by kernel_rfl)
theorem ia26 {l : List GTag} {i : Nat} (h : i < l.length) : (XOp.iaddr 26).run Tryd.prog [tags l, .int .i64 (i : Int)] = some (.vptr (encTag l[i] ++ encL encTag (l.drop (i + 1)))) := by
  have := run_iaddr_sl (enc := encTag) (w := 4) (ti := (Tryd.prog.info? 29).get!) Tryd.underlying26 (by kernel_rfl) (by kernel_rfl) lenTag h .i64
  rw [List.drop_eq_getElem_cons h] at this
  exact this
theorem ia40 {l : List GVal} {i : Nat} (h : i < l.length) : (XOp.iaddr 40).run Tryd.prog [vals l, .int .i64 (i : Int)] = some (.vptr (encVal l[i] ++ encL encVal (l.drop (i + 1)))) := by
  have := run_iaddr_sl (enc := encVal) (w := 3) (ti := (Tryd.prog.info? 37).get!) Tryd.underlying40 (by kernel_rfl) (by kernel_rfl) lenVal h .i64
  rw [List.drop_eq_getElem_cons h] at this
  exact this
theorem len40 (l : List GVal) : (XOp.len 40).run Tryd.prog [vals l] = some (.int .i64 (l.length : Int)) := run_len_sl Tryd.underlying40 l
theorem fa29_0 (t : GTag) (r : List AV) : (XOp.faddr 29 0).run Tryd.prog [.vptr (encTag t ++ r)] = some (.vptr (.str t.path :: ([.int .i64 t.addr, .int .i64 t.kind, .int .i64 t.role] ++ r))) := by kernel_rfl
theorem fa29_1 (t : GTag) (r : List AV) : (XOp.faddr 29 1).run Tryd.prog [.vptr (encTag t ++ r)] = some (.vptr (.int .i64 t.addr :: ([.int .i64 t.kind, .int .i64 t.role] ++ r))) := by kernel_rfl
theorem fa29_2 (t : GTag) (r : List AV) : (XOp.faddr 29 2).run Tryd.prog [.vptr (encTag t ++ r)] = some (.vptr (.int .i64 t.kind :: ([.int .i64 t.role] ++ r))) := by kernel_rfl
theorem fa37_0 (v : GVal) (r : List AV) : (XOp.faddr 37 0).run Tryd.prog [.vptr (encVal v ++ r)] = some (.vptr (.int .i64 v.kind :: ([.int .i64 v.i, .flt .f64 v.f] ++ r))) := by kernel_rfl
def c4 : VC := ⟨⟨[], []⟩, [(8, [none]), (9, [none]), (10, [none]), (14, [none])], [(0, [⟨[(4, .slx 0 0 0), (5, .sym 67), (3, .slx 0 10 1), (0, .sym 64)], [], 1, 2, [⟨0, 10, 1, 3, none⟩], []⟩]), (2, [⟨[(8, .slx 0 0 0), (6, .sym 72), (7, .sym 73)], [], 0, 1, [], []⟩]), (4, [⟨[(9, .slx 0 0 0), (8, .sym 74), (6, .sym 72), (72, .bool false), (66, .sym 91), (71, .sym 94), (70, .sym 93), (69, .sym 92), (67, .sym 72), (68, .sym 74), (65, .sym 90), (64, .sym 89), (58, .sym 73), (63, .sym 88), (62, .sym 87), (61, .sym 86), (59, .sym 72), (60, .sym 74), (7, .sym 73), (55, .bool false), (52, .sym 83), (54, .sym 84), (53, .sym 73), (51, .sym 82), (50, .sym 81), (48, .sym 72), (49, .sym 74)], [], 0, 1, [], []⟩])]⟩
def t4 : VT :=
 (.call 8 [] 65 [none]
 (.lt (.un .not) [.sym 65] 66 none
 (.ite 66
  (.done (.bool false))
  (.call 9 [] 67 [none]
  (.loop 68 0 [.int .i64 0, .nsl]
   (.cons 2
   (.lt (.len 22) [.sym 67] 70 none
   (.lt (.bin .lss 3 false false) [.sym 68, .sym 70] 71 none
   (.ite 71
    (.lt (.bin .shr 34 false false) [.sym 64, .sym 68] 72 none
    (.lt (.bin .and 34 false true) [.sym 72, .int .u16 1] 73 none
    (.lt (.bin .eql 34 false true) [.sym 73, .int .u16 0] 74 none
    (.ite 74
     (.lt (.iaddr 22) [.sym 67, .sym 68] 75 none
     (.lt (.load 39) [.sym 75] 76 (some 10)
     (.lt (.app 10 88) [.sym 69, .agg [.sym 76, .sym 77, .sym 78, .sym 79, .sym 80, .sym 81, .sym 82, .sym 83, .sym 84, .sym 85]] 86 none
     (.lt (.bin .add 3 false true) [.sym 68, .int .i64 1] 87 none
     (.again 0 0 [.sym 87, .sym 86])))))
     (.lt (.bin .add 3 false true) [.sym 68, .int .i64 1] 75 none
     (.again 0 0 [.sym 75, .sym 69]))))))
    (.call 10 [.sym 69] 72 [none]
    (.call 14 [.sym 69] 73 [none]
    (.loop 74 0 [.int .i64 0]
     (.cons 1
     (.lt (.len 26) [.sym 72] 75 none
     (.lt (.bin .lss 3 false false) [.sym 74, .sym 75] 76 none
     (.ite 76
      (.lt (.iaddr 26) [.sym 72, .sym 74] 77 none
      (.lt (.faddr 29 1) [.sym 77] 78 none
      (.lt (.load 3) [.sym 78] 79 none
      (.lt (.bin .lss 3 false true) [.sym 79, .int .i64 0] 80 none
      (.ite 80
       (.done (.bool false))
       (.lt (.iaddr 26) [.sym 72, .sym 74] 81 none
       (.lt (.faddr 29 1) [.sym 81] 82 none
       (.lt (.load 3) [.sym 82] 83 none
       (.lt (.len 40) [.sym 73] 84 none
       (.lt (.bin .geq 3 false false) [.sym 83, .sym 84] 85 none
       (.ite 85
        (.done (.bool false))
        (.lt (.iaddr 26) [.sym 72, .sym 74] 86 none
        (.lt (.faddr 29 1) [.sym 86] 87 none
        (.lt (.load 3) [.sym 87] 88 none
        (.lt (.iaddr 40) [.sym 73, .sym 88] 89 none
        (.lt (.faddr 37 0) [.sym 89] 90 none
        (.lt (.load 3) [.sym 90] 91 none
        (.lt (.iaddr 26) [.sym 72, .sym 74] 92 none
        (.lt (.faddr 29 2) [.sym 92] 93 none
        (.lt (.load 3) [.sym 93] 94 none
        (.lt (.bin .neq 3 false false) [.sym 91, .sym 94] 95 none
        (.ite 95
         (.done (.bool false))
         (.loop 96 0 [.int .i64 0]
          (.cons 1
          (.lt (.bin .lss 3 false false) [.sym 96, .sym 74] 97 none
          (.ite 97
           (.lt (.iaddr 26) [.sym 72, .sym 96] 98 none
           (.lt (.faddr 29 0) [.sym 98] 99 none
           (.lt (.load 9) [.sym 99] 100 none
           (.lt (.iaddr 26) [.sym 72, .sym 74] 101 none
           (.lt (.faddr 29 0) [.sym 101] 102 none
           (.lt (.load 9) [.sym 102] 103 none
           (.lt (.bin .eql 9 false false) [.sym 100, .sym 103] 104 none
           (.ite 104
            (.done (.bool false))
            (.lt (.iaddr 26) [.sym 72, .sym 96] 105 none
            (.lt (.faddr 29 1) [.sym 105] 106 none
            (.lt (.load 3) [.sym 106] 107 none
            (.lt (.iaddr 26) [.sym 72, .sym 74] 108 none
            (.lt (.faddr 29 1) [.sym 108] 109 none
            (.lt (.load 3) [.sym 109] 110 none
            (.lt (.bin .geq 3 false false) [.sym 107, .sym 110] 111 none
            (.ite 111
             (.done (.bool false))
             (.lt (.bin .add 3 false true) [.sym 96, .int .i64 1] 112 none
             (.again 2 0 [.sym 112]))))))))))))))))))
           (.lt (.bin .add 3 false true) [.sym 74, .int .i64 1] 98 none
           (.again 1 0 [.sym 98]))))
          .nil))))))))))))))))))))))))
      (.done (.bool true)))))
     .nil)))))))
   .nil))))))
theorem p4 (g : Int) : Pure Tryd.prog 4 [.int .u16 g] (.bool true) := by
  refine pure_shape (sh := [none]) (ls := [.int .u16 g]) (c := c4) (n := 300) (t := t4) mo ov rfl rfl rfl (fun Y _ => known0 _) rfl (by kernel_rfl) fun Y hf hg => ?_
  unfold t4
  obtain ⟨pv, hpv⟩ : ∃ pv, pv = playV := ⟨_, rfl⟩
  have p9' : Pure Tryd.prog 9 [] (vrs pv) := by rw [hpv]; exact p9
  have h12 : pv.length = 12 := by rw [hpv]; rfl
  refine VOK_call p8 rfl rfl (VOK_lt (run_not ..) rfl (VOK_iteF rfl (VOK_call p9' rfl (okC1 (okVrs _)) ?_)))
  refine VOK_loop (ι := Nat) (fun i => [.int .i64 i, vrs (selF g (pv.take i) 0)]) (fun i => i ≤ pv.length) (fun i => pv.length - i) 0 (Nat.zero_le _) rfl
    (fun i _ => by simp only [okL, okC, okVrs]) (fun i j _ _ h => ?_) (fun i hi => ?_)
  · simp at h; have h : i = j := by omega
    rw [h]
  refine VOK_lt (len22 _) rfl (VOK_lt (run_lss ..) rfl (VOK_ite rfl (fun hlt => ?_) (fun hlt => ?_)))
  · -- one is looked at
    have hlt : i < pv.length := by simp only [decide_eq_true_eq] at hlt; omega
    have hti : (pv.take i).length = i := by rw [List.length_take]; omega
    have hsn := selF_snoc g pv[i] (pv.take i) 0
    rw [← take_snoc pv hlt, Nat.zero_add, hti] at hsn
    refine VOK_lt (run_shr g i) rfl (VOK_lt (run_and1 g i) rfl (VOK_lt (run_eql ..) rfl (VOK_ite rfl (fun hb => ?_) (fun hb => ?_))))
    · have hb : bitF g i = 0 := by simpa using hb
      rw [if_pos hb] at hsn
      refine VOK_lt (ia22 hlt) (encL_ok okVar _) (VOK_ltN (ld39 hlt) rfl rfl (VOK_lt (app10_88 _ _ ?_) (okVrs _) (VOK_lt (run_add ..) rfl (VOK_again rfl ⟨i + 1, hlt, ?_, by omega⟩))))
      · have := (selF_sub g (pv.take i) 0).length_le; omega
      · rw [hsn, ← wrapS hlt (by omega)]; rfl
    · have hb : ¬ bitF g i = 0 := by simpa using hb
      rw [if_neg hb, List.append_nil] at hsn
      refine VOK_lt (run_add ..) rfl (VOK_again rfl ⟨i + 1, hlt, ?_, by omega⟩)
      rw [hsn, ← wrapS hlt (by omega)]; rfl
  -- what is left
  have he : i = pv.length := by simp only [decide_eq_false_iff_not] at hlt; omega
  subst he
  rw [List.take_length]
  generalize hl : selF g pv 0 = l
  have hsub : l.Sublist playV := by rw [← hl, ← hpv]; exact selF_sub g pv 0
  have ho := own_sub hsub
  have hO := once hsub
  have hle := ho.le
  have hTl := tagsF_le l 0 ho.all
  have p10' := p10 l (by omega) ho.plain ho.may
  have p14' := p14 l ho
  generalize tagsF l 0 = T at *
  generalize firstF l = M at *
  refine VOK_call p10' rfl (okC1 (okTags _)) (VOK_call p14' rfl (okC1 (okVals _)) ?_)
  refine VOK_loop (ι := Nat) (fun i => [.int .i64 i]) (fun i => i ≤ T.length) (fun i => T.length - i) 0 (Nat.zero_le _) rfl
    (fun i _ => rfl) (fun i j _ _ h => ?_) (fun i hi => ?_)
  · simp at h; have h : i = j := by omega
    rw [h]
  refine VOK_lt (len26 _) rfl (VOK_lt (run_lss ..) rfl (VOK_ite rfl (fun hlt => ?_) (fun hlt => VOK_done rfl)))
  have hlt : i < T.length := by simp only [decide_eq_true_eq] at hlt; omega
  obtain ⟨k, hk1, hk2, hk3⟩ := hO.cell i hlt
  have hpath := fun k => hO.path i k hlt
  have hasc := fun k => hO.asc i k hlt
  have hia := ia26 hlt
  have okT : okL (encTag T[i] ++ encL encTag (T.drop (i + 1))) = true := okRow okTag T[i] _
  have okR : okL (encL encTag (T.drop (i + 1))) = true := encL_ok okTag _
  have hlss : (XOp.bin .lss 3 false true).run Tryd.prog [.int .i64 T[i].addr, .int .i64 0] = some (.bool false) := by rw [run_lss, decide_eq_false (by omega)]
  have hgeq : (XOp.bin .geq 3 false false).run Tryd.prog [.int .i64 T[i].addr, .int .i64 (M.length : Int)] = some (.bool false) := by rw [run_geq, decide_eq_false (by omega)]
  have h40 : (XOp.iaddr 40).run Tryd.prog [vals M, .int .i64 T[i].addr] = some (.vptr (encVal M[k] ++ encL encVal (M.drop (k + 1)))) := by rw [hk1]; exact ia40 hk2
  have hneq : (XOp.bin .neq 3 false false).run Tryd.prog [.int .i64 M[k].kind, .int .i64 T[i].kind] = some (.bool false) := by rw [hk3, run_neq]; simp
  refine VOK_lt hia okT (VOK_lt (fa29_1 ..) okR (VOK_lt (ld3 ..) rfl (VOK_lt hlss rfl (VOK_iteF rfl ?_))))
  refine VOK_lt hia okT (VOK_lt (fa29_1 ..) okR (VOK_lt (ld3 ..) rfl (VOK_lt (len40 M) rfl (VOK_lt hgeq rfl (VOK_iteF rfl ?_)))))
  refine VOK_lt hia okT (VOK_lt (fa29_1 ..) okR (VOK_lt (ld3 ..) rfl (VOK_lt h40 (okRow okVal M[k] _) (VOK_lt (fa37_0 ..) (encL_ok okVal (M.drop (k + 1))) (VOK_lt (ld3 ..) rfl ?_)))))
  refine VOK_lt hia okT (VOK_lt (fa29_2 ..) okR (VOK_lt (ld3 ..) rfl (VOK_lt hneq rfl (VOK_iteF rfl ?_))))
  refine VOK_loop (ι := Nat) (fun k => [.int .i64 k]) (fun k => k ≤ i) (fun k => i - k) 0 (Nat.zero_le _) rfl
    (fun i _ => rfl) (fun i j _ _ h => ?_) (fun q hq => ?_)
  · simp at h; have h : i = j := by omega
    rw [h]
  refine VOK_lt (run_lss ..) rfl (VOK_ite rfl (fun hql => ?_) (fun hql => ?_))
  · have hqi : q < i := by simp only [decide_eq_true_eq] at hql; omega
    have hqT : q < T.length := by omega
    have hiq := ia26 hqT
    have okT' : okL (encTag T[q] ++ encL encTag (T.drop (q + 1))) = true := okRow okTag T[q] _
    have okR' : okL (encL encTag (T.drop (q + 1))) = true := encL_ok okTag _
    have he1 : (XOp.bin .eql 9 false false).run Tryd.prog [.str T[q].path, .str T[i].path] = some (.bool false) := by rw [run_eqs, decide_eq_false (hpath q hqi)]
    have he2 : (XOp.bin .geq 3 false false).run Tryd.prog [.int .i64 T[q].addr, .int .i64 T[i].addr] = some (.bool false) := by
      have := hasc q hqi
      rw [run_geq, decide_eq_false (by omega)]
    refine VOK_lt hiq okT' (VOK_lt (fa29_0 ..) okR' (VOK_lt (ld9x ..) rfl (VOK_lt hia okT (VOK_lt (fa29_0 ..) okR (VOK_lt (ld9x ..) rfl (VOK_lt he1 rfl (VOK_iteF rfl ?_)))))))
    refine VOK_lt hiq okT' (VOK_lt (fa29_1 ..) okR' (VOK_lt (ld3 ..) rfl (VOK_lt hia okT (VOK_lt (fa29_1 ..) okR (VOK_lt (ld3 ..) rfl (VOK_lt he2 rfl (VOK_iteF rfl ?_)))))))
    refine VOK_lt (run_add ..) rfl (VOK_again rfl ⟨q + 1, hqi, ?_, by omega⟩)
    rw [← wrapS hqT (by omega)]; rfl
  · refine VOK_lt (run_add ..) rfl (VOK_again rfl ⟨i + 1, hlt, ?_, by omega⟩)
    rw [← wrapS hlt (by omega)]; rfl
end Go.Proofs.YtbceomdmpbmnkaaDoor.vars
