/-
  The plain law of PathOnce: which paths, and which cells, tags have.
-/
import Derived.Test.YtbceomdmpbmnkaaDoorVC
import Derived.KernelRfl
import Derived.Test.YtbceomdmpbmnkaaDoorSyG
set_option maxRecDepth 100000
set_option linter.unusedVariables false
set_option linter.unusedSimpArgs false
namespace Go.Proofs.YtbceomdmpbmnkaaDoor.vars
open Go Go.Sx
/-- a value's first is of its kind -/
theorem first_kind {v : GVar} (h : mayVar v = true) (hv : isValue v.kind = true) : v.first.kind = v.kind := by
  have hk : ∀ w k, ofKind w k = true → w.kind = k := fun w k h => by
    unfold ofKind at h
    simp only [Bool.and_eq_true, decide_eq_true_eq] at h; exact h.1
  unfold mayVar at h
  rw [if_neg (c := isValue v.kind = false) (by rw [hv]; exact fun h => by cases h)] at h
  repeat' (split at h <;> try (cases h; done))
  · exact hk _ _ h
  · exact hk _ _ h
/-- these tags are of these cells, the first one of which is cell n -/
structure Fit (T : List GTag) (M : List GVal) (n : Int) : Prop where
  asc : T.Pairwise fun s t => s.addr < t.addr
  cell : ∀ t ∈ T, ∃ k : Nat, t.addr = n + k ∧ ∃ x, M[k]? = some x ∧ x.kind = t.kind
theorem Fit.append {T T' : List GTag} {M M' : List GVal} {n n' : Int} (h : Fit T M n) (h' : Fit T' M' n') (hn : n' = n + (M.length : Int)) : Fit (T ++ T') (M ++ M') n where
  asc := by
    rw [List.pairwise_append]
    refine ⟨h.asc, h'.asc, fun s hs t ht => ?_⟩
    obtain ⟨k, e1, x, e2, _⟩ := h.cell s hs
    obtain ⟨k', e1', _⟩ := h'.cell t ht
    have : k < M.length := (List.getElem?_eq_some_iff.1 e2).1
    omega
  cell := fun t ht => by
    rcases List.mem_append.1 ht with ht | ht
    · obtain ⟨k, e1, x, e2, e3⟩ := h.cell t ht
      exact ⟨k, e1, x, by rw [List.getElem?_append_left (List.getElem?_eq_some_iff.1 e2).1]; exact e2, e3⟩
    · obtain ⟨k, e1, x, e2, e3⟩ := h'.cell t ht
      exact ⟨M.length + k, by omega, x, by rw [List.getElem?_append_right (by omega), Nat.add_sub_cancel_left]; exact e2, e3⟩
theorem fit_map {M : List GVal} {n : Int} (f : Nat → GTag) (m : Nat) (hm : m ≤ M.length) (h : ∀ i, i < m → (f i).addr = n + i ∧ ∃ x, M[i]? = some x ∧ x.kind = (f i).kind) : Fit ((List.range m).map f) M n where
  asc := by
    rw [List.pairwise_map]
    refine List.Pairwise.imp_of_mem (R := fun a b => a < b) (fun {a b} ha hb hab => ?_) List.pairwise_lt_range
    rw [(h a (List.mem_range.1 ha)).1, (h b (List.mem_range.1 hb)).1]; omega
  cell := fun t ht => by
    obtain ⟨i, hi, rfl⟩ := List.mem_map.1 ht
    exact ⟨i, (h i (List.mem_range.1 hi)).1, (h i (List.mem_range.1 hi)).2⟩
theorem fit_one {v : GVar} (h : mayVar v = true) {n : Int} (hn : 0 ≤ n ∧ n ≤ 1000) : Fit (tagsOf v n) (firstOf v) n := by
  obtain ⟨hs1, hs2⟩ := size_le h
  have hw : ∀ i : Nat, i < 8 → w64 (n + i) = n + i := fun i hi => by unfold w64; rw [wrap64 (x := n + (i : Int)) (by omega) (by omega)]
  cases hv : isValue v.kind with
  | true =>
    have hfo : firstOf v = List.replicate (sizeOf1 v) v.first := by unfold firstOf; rw [hv]; rfl
    have hfk := first_kind h hv
    by_cases hs : v.size = 0
    · rw [tags_one hv hs, hfo]
      have e1 : sizeOf1 v = 1 := by unfold sizeOf1; rw [hs]; rfl
      rw [e1]
      exact ⟨by simp, fun t ht => by
        simp only [List.mem_singleton] at ht
        subst ht
        exact ⟨0, by simp, v.first, rfl, hfk⟩⟩
    · rw [tags_row h (by omega), hfo]
      have e1 : sizeOf1 v = v.size.toNat := by unfold sizeOf1; omega
      rw [e1]
      refine fit_map _ _ (by rw [List.length_replicate]; exact Nat.le_refl _) fun i hi => ⟨hw i (by omega), v.first, ?_, hfk⟩
      rw [List.getElem?_replicate, if_pos hi]
  | false =>
    have hfo : firstOf v = (cellsOf v.kind).map zeroOf := by unfold firstOf; rw [hv]; rfl
    have hkk := block_kind h hv
    have hw0 := hw 0 (by omega)
    have hw1 := hw 1 (by omega)
    have hr2 : List.range 2 = [0, 1] := rfl
    have hr1 : List.range 1 = [0] := rfl
    rw [hfo]
    unfold tagsOf
    rcases hkk with e | e | e | e | e | e | e
    all_goals
      rw [e]
      rw [if_pos (by simp [namesOf])]
      refine fit_map _ _ (by simp [namesOf, cellsOf]) fun i hi => ?_
      simp only [namesOf, if_true, if_false, reduceIte, List.length_cons, List.length_nil] at hi
      unfold nameTag
      rw [e]
    all_goals first
      | (rcases (by simp at hi; omega : i = 0 ∨ i = 1) with rfl | rfl
         · exact ⟨hw0, _, rfl, rfl⟩
         · exact ⟨hw1, _, rfl, rfl⟩)
      | (rcases (by simp at hi; omega : i = 0) with rfl
         exact ⟨hw0, _, rfl, rfl⟩)
theorem fit_all : ∀ (l : List GVar) (n : Nat), l.all mayVar = true → n + 8 * l.length ≤ 1000 → Fit (tagsF l n) (firstF l) n
  | [], n, _, _ => ⟨by simp [tagsF], fun t ht => by simp [tagsF] at ht⟩
  | v :: r, n, h, hn => by
    simp only [List.all_cons, Bool.and_eq_true] at h
    simp only [List.length_cons] at hn
    have h1 := firstOf_le h.1
    have e : IntKind.i64.wrap ((n : Int) + wid v) = ((n + (firstOf v).length : Nat) : Int) := by
      rw [wid_first h.1, wrap64 (by omega) (by omega)]; omega
    simp only [tagsF, firstF, e]
    exact (fit_one h.1 (by omega)).append (fit_all r _ h.2 (by omega)) (by omega)
/-- a variable's paths, wherever it stands -/
def pathsOf (v : GVar) : List (List UInt8) :=
  if 0 < (namesOf v.kind).length then (List.range (namesOf v.kind).length).map fun i => v.name ++ [46] ++ (namesOf v.kind).getD i []
  else if v.size = 0 then [v.name] else (List.range v.size.toNat).map fun i => v.name ++ [91] ++ digit i ++ [93]
def pathsF : List GVar → List (List UInt8)
  | [] => []
  | v :: r => pathsOf v ++ pathsF r
theorem paths_one (v : GVar) (a : Int) : (tagsOf v a).map GTag.path = pathsOf v := by
  unfold tagsOf pathsOf
  split
  · rw [List.map_map]; rfl
  · split
    · rfl
    · rw [List.map_map]; rfl
theorem paths_all : ∀ (l : List GVar) (n : Int), (tagsF l n).map GTag.path = pathsF l
  | [], _ => rfl
  | v :: r, n => by simp only [tagsF, pathsF, List.map_append, paths_one, paths_all r]
theorem paths_sub {a b : List GVar} (h : a.Sublist b) : (pathsF a).Sublist (pathsF b) := by
  induction h with
  | slnil => exact List.Sublist.slnil
  | cons v _ ih => exact List.Sublist.trans ih (List.sublist_append_right _ _)
  | cons_cons v _ ih => exact (List.Sublist.refl _).append ih
theorem paths_play : (pathsF playV).Nodup := by decide +kernel
/-- what the law asks of tags and cells -/
structure Once (T : List GTag) (M : List GVal) : Prop where
  cell : ∀ i (h : i < T.length), ∃ k : Nat, T[i].addr = k ∧ ∃ hk : k < M.length, M[k].kind = T[i].kind
  path : ∀ i k (h : i < T.length) (hk : k < i), T[k].path ≠ T[i].path
  asc : ∀ i k (h : i < T.length) (hk : k < i), T[k].addr < T[i].addr
theorem once {l : List GVar} (h : l.Sublist playV) : Once (tagsF l 0) (firstF l) := by
  have ho := own_sub h
  have hf : Fit (tagsF l 0) (firstF l) 0 := fit_all l 0 ho.all (by have := ho.le; omega)
  refine ⟨fun i hi => ?_, fun i k hi hk => ?_, fun i k hi hk => ?_⟩
  · obtain ⟨k, e1, x, e2, e3⟩ := hf.cell _ (List.getElem_mem hi)
    obtain ⟨hk, e4⟩ := List.getElem?_eq_some_iff.1 e2
    exact ⟨k, by rw [e1]; simp, hk, by rw [e4]; exact e3⟩
  · have hn : (pathsF l).Nodup := List.Nodup.sublist (paths_sub h) paths_play
    rw [← paths_all l 0] at hn
    have := List.pairwise_iff_getElem.1 hn k i (by rw [List.length_map]; omega) (by rw [List.length_map]; exact hi) hk
    simpa using this
  · exact List.pairwise_iff_getElem.1 hf.asc k i (by omega) hi hk
end Go.Proofs.YtbceomdmpbmnkaaDoor.vars
/-
  The law PathOnce answers true, whichever variables are left out.
-/
set_option maxRecDepth 100000
set_option linter.unusedVariables false
set_option linter.unusedSimpArgs false
namespace Go.Proofs.YtbceomdmpbmnkaaDoor.vars
open Go Go.Sx
section
variable {Q : AV → Prop} {L : List (Nat → List AV → Prop)} {Y : Sy}
theorem VOK_iteF {i : Nat} {a b : VT} (h : Y.v i = some (.bool false)) (h2 : VOK Tryd.prog Q L Y b) : VOK Tryd.prog Q L Y (.ite i a b) := VOK_ite h (fun h => by cases h) (fun _ => h2)
theorem VOK_iteT {i : Nat} {a b : VT} (h : Y.v i = some (.bool true)) (h2 : VOK Tryd.prog Q L Y a) : VOK Tryd.prog Q L Y (.ite i a b) := VOK_ite h (fun _ => h2) (fun h => by cases h)
end
def bitF (g : Int) (i : Nat) : Int := IntKind.u16.wrap ((BitVec.ofInt IntKind.u16.bits (g.fdiv (2 ^ (min i IntKind.u16.bits))) &&& BitVec.ofInt IntKind.u16.bits 1).toNat : Nat)
theorem run_shr {t : TypeId} {cx cy : Bool} (g : Int) (i : Nat) : (XOp.bin .shr t cx cy).run Tryd.prog [.int .u16 g, .int .i64 (i : Int)] = some (.int .u16 (g.fdiv (2 ^ (min i IntKind.u16.bits)))) := by
  show evInt2 Tryd.prog .shr .u16 g .i64 (i : Int) = _
  have h : pureRun Tryd.prog (binOp .shr 0 (.int .u16 g) (.int .i64 (i : Int))) = some (.int .u16 (g.fdiv (2 ^ (min i IntKind.u16.bits)))) := by
    have hn : ¬ ((i : Int) < 0) := by omega
    show pureRun Tryd.prog (Op.shift .shr .u16 g .i64 (i : Int)) = _
    unfold Op.shift
    rw [if_neg hn]
    rfl
  unfold evInt2
  rw [h]; rfl
theorem run_and1 {t : TypeId} {cx cy : Bool} (g : Int) (i : Nat) : (XOp.bin .and t cx cy).run Tryd.prog [.int .u16 (g.fdiv (2 ^ (min i IntKind.u16.bits))), .int .u16 1] = some (.int .u16 (bitF g i)) := rfl
def selF (g : Int) : List GVar → Nat → List GVar
  | [], _ => []
  | v :: r, i => if bitF g i = 0 then v :: selF g r (i + 1) else selF g r (i + 1)
theorem selF_snoc (g : Int) (v : GVar) : ∀ (l : List GVar) (i : Nat), selF g (l ++ [v]) i = selF g l i ++ (if bitF g (i + l.length) = 0 then [v] else [])
  | [], i => by simp only [List.nil_append, selF, List.length_nil, Nat.add_zero]
  | a :: r, i => by
    simp only [List.cons_append, selF, selF_snoc g v r, List.length_cons]
    rw [show i + 1 + r.length = i + (r.length + 1) by omega]
    split <;> rfl
theorem selF_sub (g : Int) : ∀ (l : List GVar) (i : Nat), (selF g l i).Sublist l
  | [], _ => List.Sublist.slnil
  | v :: r, i => by
    unfold selF
    split
    · exact (selF_sub g r _).cons_cons v
    · exact (selF_sub g r _).cons v
theorem app10_88 (l : List GVar) (v : GVar) (hl : l.length ≤ 100000) : (XOp.app 10 88).run Tryd.prog [vrs l, .agg (encVar v)] = some (vrs (l ++ [v])) := run_app_sl (enc := encVar) lenVar (by decide) (by decide) l v (by omega)
theorem neq_self (t : TypeId) (cx cy : Bool) (k : IntKind) (a : Int) : (XOp.bin .neq t cx cy).run Tryd.prog [.int k a, .int k a] = some (.bool false) := by rw [run_neq]; simp
theorem p8 : Pure Tryd.prog 8 [] (.bool true) := memo_ok (n := 300) mo ov (by kernel_rfl)
theorem ia26 {l : List GTag} {i : Nat} (h : i < l.length) : (XOp.iaddr 26).run Tryd.prog [tags l, .int .i64 (i : Int)] = some (.vptr (encTag l[i] ++ encL encTag (l.drop (i + 1)))) := by
  have := run_iaddr_sl (enc := encTag) (w := 4) (ti := (Tryd.prog.info? 29).get!) Tryd.underlying26 (by kernel_rfl) (by kernel_rfl) lenTag h .i64
  rw [List.drop_eq_getElem_cons h] at this
  exact this
theorem ia40 {l : List GVal} {i : Nat} (h : i < l.length) : (XOp.iaddr 40).run Tryd.prog [vals l, .int .i64 (i : Int)] = some (.vptr (encVal l[i] ++ encL encVal (l.drop (i + 1)))) := by
  have := run_iaddr_sl (enc := encVal) (w := 3) (ti := (Tryd.prog.info? 37).get!) Tryd.underlying40 (by kernel_rfl) (by kernel_rfl) lenVal h .i64
  rw [List.drop_eq_getElem_cons h] at this
  exact this
theorem len40 (l : List GVal) : (XOp.len 40).run Tryd.prog [vals l] = some (.int .i64 (l.length : Int)) := run_len_sl Tryd.underlying40 l
theorem fa29_0 (t : GTag) (r : List AV) : (XOp.faddr 29 0).run Tryd.prog [.vptr (encTag t ++ r)] = some (.vptr (.str t.path :: ([.int .i64 t.addr, .int .i64 t.kind, .int .i64 t.role] ++ r))) := by kernel_rfl
theorem fa29_1 (t : GTag) (r : List AV) : (XOp.faddr 29 1).run Tryd.prog [.vptr (encTag t ++ r)] = some (.vptr (.int .i64 t.addr :: ([.int .i64 t.kind, .int .i64 t.role] ++ r))) := by kernel_rfl
theorem fa29_2 (t : GTag) (r : List AV) : (XOp.faddr 29 2).run Tryd.prog [.vptr (encTag t ++ r)] = some (.vptr (.int .i64 t.kind :: ([.int .i64 t.role] ++ r))) := by kernel_rfl
theorem fa37_0 (v : GVal) (r : List AV) : (XOp.faddr 37 0).run Tryd.prog [.vptr (encVal v ++ r)] = some (.vptr (.int .i64 v.kind :: ([.int .i64 v.i, .flt .f64 v.f] ++ r))) := by kernel_rfl
def c4 : VC := ⟨⟨[], []⟩, [(8, [none]), (9, [none]), (10, [none]), (14, [none])], [(0, [⟨[(4, .slx 0 0 0), (5, .sym 67), (3, .slx 0 10 1), (0, .sym 64)], [], 1, 2, [⟨0, 10, 1, 3, none⟩], []⟩]), (2, [⟨[(8, .slx 0 0 0), (6, .sym 72), (7, .sym 73)], [], 0, 1, [], []⟩]), (4, [⟨[(9, .slx 0 0 0), (8, .sym 74), (6, .sym 72), (72, .bool false), (66, .sym 91), (71, .sym 94), (70, .sym 93), (69, .sym 92), (67, .sym 72), (68, .sym 74), (65, .sym 90), (64, .sym 89), (58, .sym 73), (63, .sym 88), (62, .sym 87), (61, .sym 86), (59, .sym 72), (60, .sym 74), (7, .sym 73), (55, .bool false), (52, .sym 83), (54, .sym 84), (53, .sym 73), (51, .sym 82), (50, .sym 81), (48, .sym 72), (49, .sym 74)], [], 0, 1, [], []⟩])]⟩
def t4 : VT :=
 (.call 8 [] 65 [none]
 (.lt (.un .not) [.sym 65] 66 none
 (.ite 66
  (.done (.bool false))
  (.call 9 [] 67 [none]
  (.loop 68 0 [.int .i64 0, .nsl]
   (.cons 2
   (.lt (.len 22) [.sym 67] 70 none
   (.lt (.bin .lss 3 false false) [.sym 68, .sym 70] 71 none
   (.ite 71
    (.lt (.bin .shr 34 false false) [.sym 64, .sym 68] 72 none
    (.lt (.bin .and 34 false true) [.sym 72, .int .u16 1] 73 none
    (.lt (.bin .eql 34 false true) [.sym 73, .int .u16 0] 74 none
    (.ite 74
     (.lt (.iaddr 22) [.sym 67, .sym 68] 75 none
     (.lt (.load 39) [.sym 75] 76 (some 10)
     (.lt (.app 10 88) [.sym 69, .agg [.sym 76, .sym 77, .sym 78, .sym 79, .sym 80, .sym 81, .sym 82, .sym 83, .sym 84, .sym 85]] 86 none
     (.lt (.bin .add 3 false true) [.sym 68, .int .i64 1] 87 none
     (.again 0 0 [.sym 87, .sym 86])))))
     (.lt (.bin .add 3 false true) [.sym 68, .int .i64 1] 75 none
     (.again 0 0 [.sym 75, .sym 69]))))))
    (.call 10 [.sym 69] 72 [none]
    (.call 14 [.sym 69] 73 [none]
    (.loop 74 0 [.int .i64 0]
     (.cons 1
     (.lt (.len 26) [.sym 72] 75 none
     (.lt (.bin .lss 3 false false) [.sym 74, .sym 75] 76 none
     (.ite 76
      (.lt (.iaddr 26) [.sym 72, .sym 74] 77 none
      (.lt (.faddr 29 1) [.sym 77] 78 none
      (.lt (.load 3) [.sym 78] 79 none
      (.lt (.bin .lss 3 false true) [.sym 79, .int .i64 0] 80 none
      (.ite 80
       (.done (.bool false))
       (.lt (.iaddr 26) [.sym 72, .sym 74] 81 none
       (.lt (.faddr 29 1) [.sym 81] 82 none
       (.lt (.load 3) [.sym 82] 83 none
       (.lt (.len 40) [.sym 73] 84 none
       (.lt (.bin .geq 3 false false) [.sym 83, .sym 84] 85 none
       (.ite 85
        (.done (.bool false))
        (.lt (.iaddr 26) [.sym 72, .sym 74] 86 none
        (.lt (.faddr 29 1) [.sym 86] 87 none
        (.lt (.load 3) [.sym 87] 88 none
        (.lt (.iaddr 40) [.sym 73, .sym 88] 89 none
        (.lt (.faddr 37 0) [.sym 89] 90 none
        (.lt (.load 3) [.sym 90] 91 none
        (.lt (.iaddr 26) [.sym 72, .sym 74] 92 none
        (.lt (.faddr 29 2) [.sym 92] 93 none
        (.lt (.load 3) [.sym 93] 94 none
        (.lt (.bin .neq 3 false false) [.sym 91, .sym 94] 95 none
        (.ite 95
         (.done (.bool false))
         (.loop 96 0 [.int .i64 0]
          (.cons 1
          (.lt (.bin .lss 3 false false) [.sym 96, .sym 74] 97 none
          (.ite 97
           (.lt (.iaddr 26) [.sym 72, .sym 96] 98 none
           (.lt (.faddr 29 0) [.sym 98] 99 none
           (.lt (.load 9) [.sym 99] 100 none
           (.lt (.iaddr 26) [.sym 72, .sym 74] 101 none
           (.lt (.faddr 29 0) [.sym 101] 102 none
           (.lt (.load 9) [.sym 102] 103 none
           (.lt (.bin .eql 9 false false) [.sym 100, .sym 103] 104 none
           (.ite 104
            (.done (.bool false))
            (.lt (.iaddr 26) [.sym 72, .sym 96] 105 none
            (.lt (.faddr 29 1) [.sym 105] 106 none
            (.lt (.load 3) [.sym 106] 107 none
            (.lt (.iaddr 26) [.sym 72, .sym 74] 108 none
            (.lt (.faddr 29 1) [.sym 108] 109 none
            (.lt (.load 3) [.sym 109] 110 none
            (.lt (.bin .geq 3 false false) [.sym 107, .sym 110] 111 none
            (.ite 111
             (.done (.bool false))
             (.lt (.bin .add 3 false true) [.sym 96, .int .i64 1] 112 none
             (.again 2 0 [.sym 112]))))))))))))))))))
           (.lt (.bin .add 3 false true) [.sym 74, .int .i64 1] 98 none
           (.again 1 0 [.sym 98]))))
          .nil))))))))))))))))))))))))
      (.done (.bool true)))))
     .nil)))))))
   .nil))))))
theorem p4 (g : Int) : Pure Tryd.prog 4 [.int .u16 g] (.bool true) := by
  refine pure_shape (sh := [none]) (ls := [.int .u16 g]) (c := c4) (n := 300) (t := t4) mo ov rfl rfl rfl (fun Y _ => known0 _) rfl (by kernel_rfl) fun Y hf hg => ?_
  unfold t4
  obtain ⟨pv, hpv⟩ : ∃ pv, pv = playV := ⟨_, rfl⟩
  have p9' : Pure Tryd.prog 9 [] (vrs pv) := by rw [hpv]; exact p9
  have h12 : pv.length = 12 := by rw [hpv]; rfl
  refine VOK_call p8 rfl rfl (VOK_lt (run_not ..) rfl (VOK_iteF rfl (VOK_call p9' rfl (okC1 (okVrs _)) ?_)))
  refine VOK_loop (ι := Nat) (fun i => [.int .i64 i, vrs (selF g (pv.take i) 0)]) (fun i => i ≤ pv.length) (fun i => pv.length - i) 0 (Nat.zero_le _) rfl
    (fun i _ => by simp only [okL, okC, okVrs]) (fun i j _ _ h => ?_) (fun i hi => ?_)
  · simp at h; have h : i = j := by omega
    rw [h]
  refine VOK_lt (len22 _) rfl (VOK_lt (run_lss ..) rfl (VOK_ite rfl (fun hlt => ?_) (fun hlt => ?_)))
  · -- one is looked at
    have hlt : i < pv.length := by simp only [decide_eq_true_eq] at hlt; omega
    have hti : (pv.take i).length = i := by rw [List.length_take]; omega
    have hsn := selF_snoc g pv[i] (pv.take i) 0
    rw [← take_snoc pv hlt, Nat.zero_add, hti] at hsn
    refine VOK_lt (run_shr g i) rfl (VOK_lt (run_and1 g i) rfl (VOK_lt (run_eql ..) rfl (VOK_ite rfl (fun hb => ?_) (fun hb => ?_))))
    · have hb : bitF g i = 0 := by simpa using hb
      rw [if_pos hb] at hsn
      refine VOK_lt (ia22 hlt) (encL_ok okVar _) (VOK_ltN (ld39 hlt) rfl rfl (VOK_lt (app10_88 _ _ ?_) (okVrs _) (VOK_lt (run_add ..) rfl (VOK_again rfl ⟨i + 1, hlt, ?_, by omega⟩))))
      · have := (selF_sub g (pv.take i) 0).length_le; omega
      · rw [hsn, ← wrapS hlt (by omega)]; rfl
    · have hb : ¬ bitF g i = 0 := by simpa using hb
      rw [if_neg hb, List.append_nil] at hsn
      refine VOK_lt (run_add ..) rfl (VOK_again rfl ⟨i + 1, hlt, ?_, by omega⟩)
      rw [hsn, ← wrapS hlt (by omega)]; rfl
  -- what is left
  have he : i = pv.length := by simp only [decide_eq_false_iff_not] at hlt; omega
  subst he
  rw [List.take_length]
  generalize hl : selF g pv 0 = l
  have hsub : l.Sublist playV := by rw [← hl, ← hpv]; exact selF_sub g pv 0
  have ho := own_sub hsub
  have hO := once hsub
  have hle := ho.le
  have hTl := tagsF_le l 0 ho.all
  have p10' := p10 l (by omega) ho.plain ho.may
  have p14' := p14 l ho
  generalize tagsF l 0 = T at *
  generalize firstF l = M at *
  refine VOK_call p10' rfl (okC1 (okTags _)) (VOK_call p14' rfl (okC1 (okVals _)) ?_)
  refine VOK_loop (ι := Nat) (fun i => [.int .i64 i]) (fun i => i ≤ T.length) (fun i => T.length - i) 0 (Nat.zero_le _) rfl
    (fun i _ => rfl) (fun i j _ _ h => ?_) (fun i hi => ?_)
  · simp at h; have h : i = j := by omega
    rw [h]
  refine VOK_lt (len26 _) rfl (VOK_lt (run_lss ..) rfl (VOK_ite rfl (fun hlt => ?_) (fun hlt => VOK_done rfl)))
  have hlt : i < T.length := by simp only [decide_eq_true_eq] at hlt; omega
  obtain ⟨k, hk1, hk2, hk3⟩ := hO.cell i hlt
  have hpath := fun k => hO.path i k hlt
  have hasc := fun k => hO.asc i k hlt
  have hia := ia26 hlt
  have okT : okL (encTag T[i] ++ encL encTag (T.drop (i + 1))) = true := okRow okTag T[i] _
  have okR : okL (encL encTag (T.drop (i + 1))) = true := encL_ok okTag _
  have hlss : (XOp.bin .lss 3 false true).run Tryd.prog [.int .i64 T[i].addr, .int .i64 0] = some (.bool false) := by rw [run_lss, decide_eq_false (by omega)]
  have hgeq : (XOp.bin .geq 3 false false).run Tryd.prog [.int .i64 T[i].addr, .int .i64 (M.length : Int)] = some (.bool false) := by rw [run_geq, decide_eq_false (by omega)]
  have h40 : (XOp.iaddr 40).run Tryd.prog [vals M, .int .i64 T[i].addr] = some (.vptr (encVal M[k] ++ encL encVal (M.drop (k + 1)))) := by rw [hk1]; exact ia40 hk2
  have hneq : (XOp.bin .neq 3 false false).run Tryd.prog [.int .i64 M[k].kind, .int .i64 T[i].kind] = some (.bool false) := by rw [hk3, run_neq]; simp
  refine VOK_lt hia okT (VOK_lt (fa29_1 ..) okR (VOK_lt (ld3 ..) rfl (VOK_lt hlss rfl (VOK_iteF rfl ?_))))
  refine VOK_lt hia okT (VOK_lt (fa29_1 ..) okR (VOK_lt (ld3 ..) rfl (VOK_lt (len40 M) rfl (VOK_lt hgeq rfl (VOK_iteF rfl ?_)))))
  refine VOK_lt hia okT (VOK_lt (fa29_1 ..) okR (VOK_lt (ld3 ..) rfl (VOK_lt h40 (okRow okVal M[k] _) (VOK_lt (fa37_0 ..) (encL_ok okVal (M.drop (k + 1))) (VOK_lt (ld3 ..) rfl ?_)))))
  refine VOK_lt hia okT (VOK_lt (fa29_2 ..) okR (VOK_lt (ld3 ..) rfl (VOK_lt hneq rfl (VOK_iteF rfl ?_))))
  refine VOK_loop (ι := Nat) (fun k => [.int .i64 k]) (fun k => k ≤ i) (fun k => i - k) 0 (Nat.zero_le _) rfl
    (fun i _ => rfl) (fun i j _ _ h => ?_) (fun q hq => ?_)
  · simp at h; have h : i = j := by omega
    rw [h]
  refine VOK_lt (run_lss ..) rfl (VOK_ite rfl (fun hql => ?_) (fun hql => ?_))
  · have hqi : q < i := by simp only [decide_eq_true_eq] at hql; omega
    have hqT : q < T.length := by omega
    have hiq := ia26 hqT
    have okT' : okL (encTag T[q] ++ encL encTag (T.drop (q + 1))) = true := okRow okTag T[q] _
    have okR' : okL (encL encTag (T.drop (q + 1))) = true := encL_ok okTag _
    have he1 : (XOp.bin .eql 9 false false).run Tryd.prog [.str T[q].path, .str T[i].path] = some (.bool false) := by rw [run_eqs, decide_eq_false (hpath q hqi)]
    have he2 : (XOp.bin .geq 3 false false).run Tryd.prog [.int .i64 T[q].addr, .int .i64 T[i].addr] = some (.bool false) := by
      have := hasc q hqi
      rw [run_geq, decide_eq_false (by omega)]
    refine VOK_lt hiq okT' (VOK_lt (fa29_0 ..) okR' (VOK_lt (ld9x ..) rfl (VOK_lt hia okT (VOK_lt (fa29_0 ..) okR (VOK_lt (ld9x ..) rfl (VOK_lt he1 rfl (VOK_iteF rfl ?_)))))))
    refine VOK_lt hiq okT' (VOK_lt (fa29_1 ..) okR' (VOK_lt (ld3 ..) rfl (VOK_lt hia okT (VOK_lt (fa29_1 ..) okR (VOK_lt (ld3 ..) rfl (VOK_lt he2 rfl (VOK_iteF rfl ?_)))))))
    refine VOK_lt (run_add ..) rfl (VOK_again rfl ⟨q + 1, hqi, ?_, by omega⟩)
    rw [← wrapS hqT (by omega)]; rfl
  · refine VOK_lt (run_add ..) rfl (VOK_again rfl ⟨i + 1, hlt, ?_, by omega⟩)
    rw [← wrapS hlt (by omega)]; rfl
end Go.Proofs.YtbceomdmpbmnkaaDoor.vars
/-
  What a page of tags is, by its tree; the law BrowFrom answers true.
-/
set_option maxRecDepth 100000
set_option linter.unusedVariables false
set_option linter.unusedSimpArgs false
namespace Go.Proofs.YtbceomdmpbmnkaaDoor.vars
open Go Go.Sx
abbrev TagV (l : List GTag) (a : AV) : Prop := SlV encTag 4 l a
def c16 : VC := ⟨⟨[], []⟩, [(10, [none])], []⟩
def t16 : VT :=
 (.call 10 [.sym 64] 66 [none]
 (.lt (.bin .lss 3 false true) [.sym 65, .int .i64 0] 67 none
 (.ite 67
  (.done (.tup [.nsl, .int .i64 0, .int .i64 1]))
  (.lt (.len 26) [.sym 66] 68 none
  (.lt (.bin .gtr 3 false false) [.sym 65, .sym 68] 69 none
  (.ite 69
   (.done (.tup [.nsl, .int .i64 0, .int .i64 1]))
   (.lt (.bin .add 3 false true) [.sym 65, .int .i64 5] 70 none
   (.lt (.len 26) [.sym 66] 71 none
   (.lt (.bin .geq 3 false false) [.sym 70, .sym 71] 72 none
   (.ite 72
    (.lt (.slc 26 true false) [.sym 66, .sym 65] 73 none
    (.done (.tup [.sym 73, .int .i64 0, .int .i64 0])))
    (.lt (.slc 26 true true) [.sym 66, .sym 65, .sym 70] 73 none
    (.done (.tup [.sym 73, .sym 70, .int .i64 0])))))))))))))
/-- from which one on the next page is -/
def nextF (T : List GTag) (k : Nat) : Int := if T.length ≤ k + 5 then 0 else ((k + 5 : Nat) : Int)
def pageF (T : List GTag) (k : Nat) : List GTag := (T.drop k).take 5
theorem p16 {a : AV} (ha : okC a = true) {T : List GTag} (hT : T.length ≤ 1000) (p10' : Pure Tryd.prog 10 [a] (tags T)) {k : Nat} (hk : k ≤ T.length) :
    ∃ r, TagV (pageF T k) r ∧ Pure Tryd.prog 16 [a, .int .i64 (k : Int)] (.tup [r, .int .i64 (nextF T k), .int .i64 0]) := by
  have hw : IntKind.i64.wrap ((k : Int) + 5) = ((k + 5 : Nat) : Int) := by rw [wrap64 (by omega) (by omega)]; rfl
  have hs1 := SlV.slc10 (P := Tryd.prog) (ti := (Tryd.prog.info? 29).get!) Tryd.underlying26 (by kernel_rfl) (by kernel_rfl) lenTag (SlV.of (w := 4) T) (k := .i64) (i := k) hk
  by_cases h5 : T.length ≤ k + 5
  · obtain ⟨r, hr, hv⟩ := hs1
    have e : T.drop k = pageF T k := by unfold pageF; rw [List.take_of_length_le]; rw [List.length_drop]; omega
    rw [e] at hv
    refine ⟨r, hv, ?_⟩
    refine pure_shape (sh := [none, none]) (ls := [a, .int .i64 k]) (c := c16) (n := 300) (t := t16) mo ov rfl (by simp only [okL, ha, okC]) (by simp only [noRef, noRefL, okC_noRef (hv.ok okTag)]) (fun Y _ => known0 _) rfl (by kernel_rfl) fun Y hf hg => ?_
    unfold t16
    refine VOK_call p10' rfl (okC1 (okTags _)) (VOK_lt (run_lss ..) rfl (VOK_ite rfl (fun h => ?_) (fun _ => VOK_lt (len26 T) rfl (VOK_lt (run_gtr ..) rfl (VOK_ite rfl (fun h => ?_) (fun _ => VOK_lt (run_add ..) rfl (VOK_lt (len26 T) rfl (VOK_lt (run_geq ..) rfl (VOK_ite rfl (fun h => VOK_lt hr (hv.ok okTag) (VOK_done ?_)) (fun h => ?_))))))))))
    · simp only [decide_eq_true_eq] at h; omega
    · simp only [decide_eq_true_eq] at h; omega
    · show AV.tup [r, .int .i64 0, .int .i64 0] = _
      unfold nextF; rw [if_pos h5]
    · rw [hw] at h; simp only [decide_eq_false_iff_not] at h; omega
  · obtain ⟨r, hr, hv⟩ := SlV.slc11 (P := Tryd.prog) (ti := (Tryd.prog.info? 29).get!) Tryd.underlying26 (by kernel_rfl) (by kernel_rfl) lenTag (SlV.of (w := 4) T) (k := .i64) (k' := .i64) (i := k) (j := k + 5) (by omega) (by omega)
    have e : (T.take (k + 5)).drop k = pageF T k := by unfold pageF; rw [List.drop_take]; congr 1; omega
    rw [e] at hv
    rw [← hw] at hr
    refine ⟨r, hv, ?_⟩
    refine pure_shape (sh := [none, none]) (ls := [a, .int .i64 k]) (c := c16) (n := 300) (t := t16) mo ov rfl (by simp only [okL, ha, okC]) (by simp only [noRef, noRefL, okC_noRef (hv.ok okTag)]) (fun Y _ => known0 _) rfl (by kernel_rfl) fun Y hf hg => ?_
    unfold t16
    refine VOK_call p10' rfl (okC1 (okTags _)) (VOK_lt (run_lss ..) rfl (VOK_ite rfl (fun h => ?_) (fun _ => VOK_lt (len26 T) rfl (VOK_lt (run_gtr ..) rfl (VOK_ite rfl (fun h => ?_) (fun _ => VOK_lt (run_add ..) rfl (VOK_lt (len26 T) rfl (VOK_lt (run_geq ..) rfl (VOK_ite rfl (fun h => ?_) (fun h => VOK_lt hr (hv.ok okTag) (VOK_done ?_)))))))))))
    · simp only [decide_eq_true_eq] at h; omega
    · simp only [decide_eq_true_eq] at h; omega
    · rw [hw] at h; simp only [decide_eq_true_eq] at h; omega
    · show AV.tup [r, .int .i64 (IntKind.i64.wrap ((k : Int) + 5)), .int .i64 0] = _
      unfold nextF; rw [if_neg h5, hw]
/-- there are not so many -/
theorem p16n {a : AV} (ha : okC a = true) {T : List GTag} (p10' : Pure Tryd.prog 10 [a] (tags T)) {k : Int} (hk : k < 0 ∨ (T.length : Int) < k) : Pure Tryd.prog 16 [a, .int .i64 k] (.tup [.nsl, .int .i64 0, .int .i64 1]) := by
  refine pure_shape (sh := [none, none]) (ls := [a, .int .i64 k]) (c := c16) (n := 300) (t := t16) mo ov rfl (by simp only [okL, ha, okC]) rfl (fun Y _ => known0 _) rfl (by kernel_rfl) fun Y hf hg => ?_
  unfold t16
  refine VOK_call p10' rfl (okC1 (okTags _)) (VOK_lt (run_lss ..) rfl (VOK_ite rfl (fun h => VOK_done rfl) (fun h => VOK_lt (len26 T) rfl (VOK_lt (run_gtr ..) rfl (VOK_ite rfl (fun h => VOK_done rfl) (fun h' => ?_))))))
  simp only [decide_eq_false_iff_not] at h h'; omega
theorem p15 : Pure Tryd.prog 15 [] (.bool true) := memo_ok (n := 300) mo ov (by kernel_rfl)
theorem run_min {P : Program} (k : IntKind) (a b : Int) : (XOp.mm false).run P [.int k a, .int k b] = some (.int k (min a b)) := by
  show (match Nat.beq (kix k) (kix k) with | true => some (AV.int k (min a b)) | false => none) = _
  rw [kix_self]
theorem run_neqb (cx cy : Bool) (a b : Bool) : (XOp.bin .neq 4 cx cy).run Tryd.prog [.bool a, .bool b] = some (.bool (a != b)) := by
  cases cx <;> cases cy <;> cases a <;> cases b <;> kernel_rfl
theorem eqB_self (s : List UInt8) : eqB s s = true := by rw [eqB_eq]; simp
theorem eqI_self (n : Int) : eqI n n = true := by rw [eqI_eq]; simp
theorem run_neq_tag (t : GTag) : (XOp.bin .neq 29 false false).run Tryd.prog [.agg (encTag t), .agg (encTag t)] = some (.bool false) := by
  obtain ⟨p, a, k, r⟩ := t
  have h : (XOp.bin .neq 29 false false).run Tryd.prog [.agg (encTag ⟨p, a, k, r⟩), .agg (encTag ⟨p, a, k, r⟩)] =
      (match (match eqB p p with | true => (match eqI a a with | true => (match eqI k k with | true => (match eqI r r with | true => some true | false => some false) | false => some false) | false => some false) | false => some false) with | some b => some (AV.bool (xor true b)) | none => none) := by kernel_rfl
  rw [h, eqB_self, eqI_self, eqI_self, eqI_self]
  rfl
end Go.Proofs.YtbceomdmpbmnkaaDoor.vars
/-
  The law BrowFrom answers true, from whichever tag on, whichever variables are left out.
-/
set_option maxRecDepth 100000
set_option linter.unusedVariables false
set_option linter.unusedSimpArgs false
namespace Go.Proofs.YtbceomdmpbmnkaaDoor.vars
open Go Go.Sx
def c7 : VC := ⟨⟨[], []⟩, [(8, [none]), (9, [none]), (16, [none, none, none]), (11, [none]), (15, [none])], [(0, [⟨[(6, .slx 0 0 0), (7, .sym 68), (5, .slx 0 10 1), (1, .sym 65), (0, .sym 64)], [], 1, 2, [⟨0, 10, 1, 5, none⟩], []⟩]), (2, [⟨[(13, .slx 0 0 0), (9, .sym 77), (8, .sym 73), (10, .sym 78)], [], 0, 1, [], []⟩])]⟩
def t7 : VT :=
 (.call 15 [] 66 [none]
 (.lt (.un .not) [.sym 66] 67 none
 (.ite 67
  (.done (.bool false))
  (.call 9 [] 68 [none]
  (.loop 69 0 [.int .i64 0, .nsl]
   (.cons 2
   (.lt (.len 22) [.sym 68] 71 none
   (.lt (.bin .lss 3 false false) [.sym 69, .sym 71] 72 none
   (.ite 72
    (.lt (.bin .shr 34 false false) [.sym 65, .sym 69] 73 none
    (.lt (.bin .and 34 false true) [.sym 73, .int .u16 1] 74 none
    (.lt (.bin .eql 34 false true) [.sym 74, .int .u16 0] 75 none
    (.ite 75
     (.lt (.iaddr 22) [.sym 68, .sym 69] 76 none
     (.lt (.load 39) [.sym 76] 77 (some 10)
     (.lt (.app 10 88) [.sym 70, .agg [.sym 77, .sym 78, .sym 79, .sym 80, .sym 81, .sym 82, .sym 83, .sym 84, .sym 85, .sym 86]] 87 none
     (.lt (.bin .add 3 false true) [.sym 69, .int .i64 1] 88 none
     (.again 0 0 [.sym 88, .sym 87])))))
     (.lt (.bin .add 3 false true) [.sym 69, .int .i64 1] 76 none
     (.again 0 0 [.sym 76, .sym 70]))))))
    (.call 11 [.sym 70] 73 [none]
    (.lt (.conv 5 3) [.sym 64] 74 none
    (.lt (.len 26) [.sym 73] 75 none
    (.lt (.bin .add 3 false true) [.sym 75, .int .i64 1] 76 none
    (.lt (.bin .rem 3 false false) [.sym 74, .sym 76] 77 none
    (.call 16 [.sym 70, .sym 77] 78 [none, none, none]
    (.lt (.bin .neq 43 false true) [.sym 80, .int .i64 0] 81 none
    (.ite 81
     (.done (.bool false))
     (.lt (.len 26) [.sym 78] 82 none
     (.lt (.len 26) [.sym 73] 83 none
     (.lt (.bin .sub 3 false false) [.sym 83, .sym 77] 84 none
     (.lt (.mm false) [.sym 84, .int .i64 5] 85 none
     (.lt (.bin .neq 3 false false) [.sym 82, .sym 85] 86 none
     (.ite 86
      (.done (.bool false))
      (.lt (.bin .eql 3 false true) [.sym 79, .int .i64 0] 87 none
      (.lt (.len 26) [.sym 78] 88 none
      (.lt (.bin .add 3 false false) [.sym 77, .sym 88] 89 none
      (.lt (.len 26) [.sym 73] 90 none
      (.lt (.bin .eql 3 false false) [.sym 89, .sym 90] 91 none
      (.lt (.bin .neq 4 false false) [.sym 87, .sym 91] 92 none
      (.ite 92
       (.done (.bool false))
       (.lt (.bin .neq 3 false true) [.sym 79, .int .i64 0] 93 none
       (.ite 93
        (.lt (.len 26) [.sym 78] 94 none
        (.lt (.bin .add 3 false false) [.sym 77, .sym 94] 95 none
        (.lt (.bin .neq 3 false false) [.sym 79, .sym 95] 96 none
        (.ite 96
         (.done (.bool false))
         (.loop 97 0 [.int .i64 0]
          (.cons 1
          (.lt (.len 26) [.sym 78] 98 none
          (.lt (.bin .lss 3 false false) [.sym 97, .sym 98] 99 none
          (.ite 99
           (.lt (.iaddr 26) [.sym 78, .sym 97] 100 none
           (.lt (.load 29) [.sym 100] 101 (some 4)
           (.lt (.bin .add 3 false false) [.sym 77, .sym 97] 105 none
           (.lt (.iaddr 26) [.sym 73, .sym 105] 106 none
           (.lt (.load 29) [.sym 106] 107 (some 4)
           (.lt (.bin .neq 29 false false) [.agg [.sym 101, .sym 102, .sym 103, .sym 104], .agg [.sym 107, .sym 108, .sym 109, .sym 110]] 111 none
           (.ite 111
            (.done (.bool false))
            (.lt (.bin .add 3 false true) [.sym 97, .int .i64 1] 112 none
            (.again 1 0 [.sym 112])))))))))
           (.done (.bool true)))))
          .nil))))))
        (.loop 94 0 [.int .i64 0]
         (.cons 1
         (.lt (.len 26) [.sym 78] 95 none
         (.lt (.bin .lss 3 false false) [.sym 94, .sym 95] 96 none
         (.ite 96
          (.lt (.iaddr 26) [.sym 78, .sym 94] 97 none
          (.lt (.load 29) [.sym 97] 98 (some 4)
          (.lt (.bin .add 3 false false) [.sym 77, .sym 94] 102 none
          (.lt (.iaddr 26) [.sym 73, .sym 102] 103 none
          (.lt (.load 29) [.sym 103] 104 (some 4)
          (.lt (.bin .neq 29 false false) [.agg [.sym 98, .sym 99, .sym 100, .sym 101], .agg [.sym 104, .sym 105, .sym 106, .sym 107]] 108 none
          (.ite 108
           (.done (.bool false))
           (.lt (.bin .add 3 false true) [.sym 94, .int .i64 1] 109 none
           (.again 1 0 [.sym 109])))))))))
          (.done (.bool true)))))
         .nil))))))))))))))))))))))))))))
   .nil))))))
theorem run_rem {t : TypeId} {cx cy : Bool} (n m : Nat) (hm : m ≠ 0) : (XOp.bin .rem t cx cy).run Tryd.prog [.int .i64 (n : Int), .int .i64 (m : Int)] = some (.int .i64 ((n % m : Nat) : Int)) :=
  rem_run (P := Tryd.prog) (k := .i64) (x := (n : Int)) (c := (m : Int)) (r := ((n % m : Nat) : Int)) (by omega) (by rw [Int.tmod_eq_emod_of_nonneg (by omega)]; rfl) t cx cy
theorem pageF_len (T : List GTag) (k : Nat) : (pageF T k).length = min 5 (T.length - k) := by
  unfold pageF; rw [List.length_take, List.length_drop]
theorem pageF_at (T : List GTag) (k i : Nat) (h : i < (pageF T k).length) (h' : k + i < T.length) : (pageF T k)[i] = T[k + i] := by
  simp only [pageF, List.getElem_take, List.getElem_drop]
theorem iaT {l : List GTag} {a : AV} (h : TagV l a) {i : Nat} (hl : i < l.length) : (XOp.iaddr 26).run Tryd.prog [a, .int .i64 (i : Int)] = some (.vptr (encL encTag (l.drop i))) :=
  h.ia (ti := (Tryd.prog.info? 29).get!) Tryd.underlying26 (by kernel_rfl) (by kernel_rfl) lenTag hl .i64
theorem lenT {l : List GTag} {a : AV} (h : TagV l a) : (XOp.len 26).run Tryd.prog [a] = some (.int .i64 (l.length : Int)) := h.len Tryd.underlying26
theorem ld29 {l : List GTag} {i : Nat} (h : i < l.length) : (XOp.load 29).run Tryd.prog [.vptr (encL encTag (l.drop i))] = some (.agg (encTag l[i])) :=
  run_load_agg (ti := (Tryd.prog.info? 29).get!) Tryd.underlying29 rfl (by kernel_rfl) (by kernel_rfl) lenTag h
theorem wN {n : Nat} (h : n ≤ 100000) : IntKind.i64.wrap ((n : Nat) : Int) = ((n : Nat) : Int) := wrap64 (by omega) (by omega)
theorem addN {t : TypeId} {cx cy : Bool} {a b : Nat} (h : a + b ≤ 100000) : (XOp.bin .add t cx cy).run Tryd.prog [.int .i64 (a : Int), .int .i64 (b : Int)] = some (.int .i64 ((a + b : Nat) : Int)) := by
  rw [run_add, wrap64 (by omega) (by omega)]; rfl
theorem p7 (from' : Nat) (hfr : from' < 256) (g : Int) : Pure Tryd.prog 7 [.int .u8 (from' : Int), .int .u16 g] (.bool true) := by
  refine pure_shape (sh := [none, none]) (ls := [.int .u8 from', .int .u16 g]) (c := c7) (n := 300) (t := t7) mo ov rfl rfl rfl (fun Y _ => known0 _) rfl (by kernel_rfl) fun Y hf hg => ?_
  unfold t7
  obtain ⟨pv, hpv⟩ : ∃ pv, pv = playV := ⟨_, rfl⟩
  have p9' : Pure Tryd.prog 9 [] (vrs pv) := by rw [hpv]; exact p9
  have h12 : pv.length = 12 := by rw [hpv]; rfl
  refine VOK_call p15 rfl rfl (VOK_lt (run_not ..) rfl (VOK_iteF rfl (VOK_call p9' rfl (okC1 (okVrs _)) ?_)))
  refine VOK_loop (ι := Nat) (fun i => [.int .i64 i, vrs (selF g (pv.take i) 0)]) (fun i => i ≤ pv.length) (fun i => pv.length - i) 0 (Nat.zero_le _) rfl
    (fun i _ => by simp only [okL, okC, okVrs]) (fun i j _ _ h => ?_) (fun i hi => ?_)
  · simp at h; have h : i = j := by omega
    rw [h]
  refine VOK_lt (len22 _) rfl (VOK_lt (run_lss ..) rfl (VOK_ite rfl (fun hlt => ?_) (fun hlt => ?_)))
  · -- one is looked at
    have hlt : i < pv.length := by simp only [decide_eq_true_eq] at hlt; omega
    have hti : (pv.take i).length = i := by rw [List.length_take]; omega
    have hsn := selF_snoc g pv[i] (pv.take i) 0
    rw [← take_snoc pv hlt, Nat.zero_add, hti] at hsn
    refine VOK_lt (run_shr g i) rfl (VOK_lt (run_and1 g i) rfl (VOK_lt (run_eql ..) rfl (VOK_ite rfl (fun hb => ?_) (fun hb => ?_))))
    · have hb : bitF g i = 0 := by simpa using hb
      rw [if_pos hb] at hsn
      refine VOK_lt (ia22 hlt) (encL_ok okVar _) (VOK_ltN (ld39 hlt) rfl rfl (VOK_lt (app10_88 _ _ ?_) (okVrs _) (VOK_lt (run_add ..) rfl (VOK_again rfl ⟨i + 1, hlt, ?_, by omega⟩))))
      · have := (selF_sub g (pv.take i) 0).length_le; omega
      · rw [hsn, ← wrapS hlt (by omega)]; rfl
    · have hb : ¬ bitF g i = 0 := by simpa using hb
      rw [if_neg hb, List.append_nil] at hsn
      refine VOK_lt (run_add ..) rfl (VOK_again rfl ⟨i + 1, hlt, ?_, by omega⟩)
      rw [hsn, ← wrapS hlt (by omega)]; rfl
  -- what is left
  have he : i = pv.length := by simp only [decide_eq_false_iff_not] at hlt; omega
  subst he
  rw [List.take_length]
  generalize hl : selF g pv 0 = l
  have hsub : l.Sublist playV := by rw [← hl, ← hpv]; exact selF_sub g pv 0
  have ho := own_sub hsub
  have hle := ho.le
  have hTl := tagsF_le l 0 ho.all
  have p10' := p10 l (by omega) ho.plain ho.may
  have p11' := p11 l ho
  generalize tagsF l 0 = T at *
  have hTl : T.length ≤ 200 := by omega
  generalize hK : from' % (T.length + 1) = k
  have hkT : k ≤ T.length := by have := Nat.mod_lt from' (show T.length + 1 > 0 by omega); omega
  obtain ⟨r, hv, p16'⟩ := p16 (a := vrs l) (okVrs l) (T := T) (by omega) p10' hkT
  have hR := pageF_len T k
  have hcv : (XOp.conv 5 3).run Tryd.prog [.int .u8 (from' : Int)] = some (.int .i64 (from' : Int)) := by rw [cv_int Tryd.underlying5 Tryd.underlying3, wrap64 (by omega) (by omega)]
  have hrem : (XOp.bin .rem 3 false false).run Tryd.prog [.int .i64 (from' : Int), .int .i64 ((T.length + 1 : Nat) : Int)] = some (.int .i64 (k : Int)) := by rw [run_rem _ _ (by omega), hK]
  have hsub2 : (XOp.bin .sub 3 false false).run Tryd.prog [.int .i64 (T.length : Int), .int .i64 (k : Int)] = some (.int .i64 ((T.length - k : Nat) : Int)) := by rw [run_sub, wrap64 (by omega) (by omega)]; congr 2; omega
  have hmn : (XOp.mm false).run Tryd.prog [.int .i64 ((T.length - k : Nat) : Int), .int .i64 5] = some (.int .i64 ((pageF T k).length : Int)) := by rw [run_min, hR]; congr 2; omega
  refine VOK_call p11' rfl (okC1 (okTags _)) (VOK_lt hcv rfl (VOK_lt (len26 T) rfl (VOK_lt (addN (a := T.length) (b := 1) (by omega)) rfl (VOK_lt hrem rfl ?_))))
  refine VOK_call p16' rfl (by simp only [okL, hv.ok okTag, okC]) (VOK_lt (neq_self ..) rfl (VOK_iteF rfl ?_))
  refine VOK_lt (lenT hv) rfl (VOK_lt (len26 T) rfl (VOK_lt hsub2 rfl (VOK_lt hmn rfl (VOK_lt (neq_self ..) rfl (VOK_iteF rfl ?_)))))
  refine VOK_lt (run_eql ..) rfl (VOK_lt (lenT hv) rfl (VOK_lt (addN (by omega)) rfl (VOK_lt (len26 T) rfl (VOK_lt (run_eql ..) rfl (VOK_lt (run_neqb ..) rfl ?_)))))
  have hb : ((decide (nextF T k = 0)) != decide (((k + (pageF T k).length : Nat) : Int) = (T.length : Int))) = false := by
    unfold nextF
    split
    · have : ((k + (pageF T k).length : Nat) : Int) = (T.length : Int) := by omega
      rw [this]; simp
    · have h1 : ¬ ((k + 5 : Nat) : Int) = 0 := by omega
      have h2 : ¬ ((k + (pageF T k).length : Nat) : Int) = (T.length : Int) := by omega
      rw [decide_eq_false h1, decide_eq_false h2]; rfl
  rw [hb]
  refine VOK_iteF rfl (VOK_lt (run_neq ..) rfl (VOK_ite rfl (fun hn => ?_) (fun hn => ?_)))
  all_goals (try refine VOK_lt (lenT hv) rfl (VOK_lt (addN (by omega)) rfl (VOK_lt (r := .bool false) ?_ rfl (VOK_iteF rfl ?_))))
  all_goals (try (
    refine VOK_loop (ι := Nat) (fun i => [.int .i64 i]) (fun i => i ≤ (pageF T k).length) (fun i => (pageF T k).length - i) 0 (Nat.zero_le _) rfl
      (fun i _ => rfl) (fun i j _ _ h => ?_) (fun i hi => ?_)
    · simp at h; have h : i = j := by omega
      rw [h]
    refine VOK_lt (lenT hv) rfl (VOK_lt (run_lss ..) rfl (VOK_ite rfl (fun hlt => ?_) (fun hlt => VOK_done rfl)))
    have hlt : i < (pageF T k).length := by simp only [decide_eq_true_eq] at hlt; omega
    have hlt2 : k + i < T.length := by omega
    have hat := pageF_at T k i hlt hlt2
    have hne := run_neq_tag (T[k + i])
    refine VOK_lt (iaT hv hlt) (encL_ok okTag _) (VOK_ltN (ld29 hlt) rfl rfl (VOK_lt (addN (by omega)) rfl (VOK_lt (iaT (SlV.of T) hlt2) (encL_ok okTag _) (VOK_ltN (ld29 hlt2) rfl rfl (VOK_lt (r := .bool false) ?_ rfl (VOK_iteF rfl (VOK_lt (run_add ..) rfl (VOK_again rfl ⟨i + 1, hlt, ?_, by omega⟩))))))))
    · rw [← hne, ← hat]; rfl
    · rw [← wrapS hlt (by omega)]; rfl))
  · show (XOp.bin .neq 3 false false).run Tryd.prog [.int .i64 (nextF T k), .int .i64 ((k + (pageF T k).length : Nat) : Int)] = _
    have : nextF T k = ((k + (pageF T k).length : Nat) : Int) := by
      have hn : ¬ nextF T k = 0 := by simpa using hn
      unfold nextF at hn ⊢
      split at hn
      · exact absurd rfl hn
      · rename_i h5; rw [if_neg h5]; omega
    rw [this]; exact neq_self ..
theorem p7w (a0 a1 : Int) (w0 : (Lit.int .u8 a0).wf = true) : Pure Tryd.prog 7 [.int .u8 a0, .int .u16 a1] (.bool true) := by
  simp only [Lit.wf, Bool.and_eq_true, decide_eq_true_eq] at w0
  have h1 : IntKind.u8.min = 0 := rfl
  have h2 : IntKind.u8.max = 255 := rfl
  obtain ⟨n, rfl⟩ : ∃ n : Nat, a0 = n := ⟨a0.toNat, by omega⟩
  exact p7 n (by omega) a1
end Go.Proofs.YtbceomdmpbmnkaaDoor.vars
/-
  The law BrowPages answers true, whichever variables are left out.
-/
set_option maxRecDepth 100000
set_option linter.unusedVariables false
set_option linter.unusedSimpArgs false
namespace Go.Proofs.YtbceomdmpbmnkaaDoor.vars
open Go Go.Sx
def c6 : VC := ⟨⟨[], []⟩, [(8, [none]), (9, [none]), (16, [none, none, none]), (11, [none]), (15, [none])], [(0, [⟨[(4, .slx 0 0 0), (5, .sym 67), (3, .slx 0 10 1), (0, .sym 64)], [], 1, 2, [⟨0, 10, 1, 3, none⟩], []⟩]), (2, [⟨[(6, .slx 0 4 0), (8, .slx 1 0 0), (3, .slx 2 0 0), (7, .slx 3 0 0)], [], 1, 4, [⟨0, 4, 0, 6, none⟩], []⟩]), (4, [⟨[(13, .slx 0 0 0), (12, .slx 1 0 0), (6, .slx 2 0 0)], [], 0, 3, [], []⟩])]⟩
def t6 : VT :=
 (.call 15 [] 65 [none]
 (.lt (.un .not) [.sym 65] 66 none
 (.ite 66
  (.done (.bool false))
  (.call 9 [] 67 [none]
  (.loop 68 0 [.int .i64 0, .nsl]
   (.cons 2
   (.lt (.len 22) [.sym 67] 70 none
   (.lt (.bin .lss 3 false false) [.sym 68, .sym 70] 71 none
   (.ite 71
    (.lt (.bin .shr 34 false false) [.sym 64, .sym 68] 72 none
    (.lt (.bin .and 34 false true) [.sym 72, .int .u16 1] 73 none
    (.lt (.bin .eql 34 false true) [.sym 73, .int .u16 0] 74 none
    (.ite 74
     (.lt (.iaddr 22) [.sym 67, .sym 68] 75 none
     (.lt (.load 39) [.sym 75] 76 (some 10)
     (.lt (.app 10 88) [.sym 69, .agg [.sym 76, .sym 77, .sym 78, .sym 79, .sym 80, .sym 81, .sym 82, .sym 83, .sym 84, .sym 85]] 86 none
     (.lt (.bin .add 3 false true) [.sym 68, .int .i64 1] 87 none
     (.again 0 0 [.sym 87, .sym 86])))))
     (.lt (.bin .add 3 false true) [.sym 68, .int .i64 1] 75 none
     (.again 0 0 [.sym 75, .sym 69]))))))
    (.loop 72 0 [.nsl, .int .i64 0, .sym 69, .int .i64 0]
     (.cons 4
     (.lt (.bin .lss 3 false true) [.sym 73, .int .i64 20] 76 none
     (.ite 76
      (.call 16 [.sym 74, .sym 75] 77 [none, none, none]
      (.lt (.bin .neq 43 false true) [.sym 79, .int .i64 0] 80 none
      (.ite 80
       (.done (.bool false))
       (.lt (.len 26) [.sym 77] 81 none
       (.lt (.bin .gtr 3 false true) [.sym 81, .int .i64 5] 82 none
       (.ite 82
        (.done (.bool false))
        (.lt (.app 4 40) [.sym 72, .sym 77] 83 none
        (.lt (.bin .eql 3 false true) [.sym 78, .int .i64 0] 84 none
        (.ite 84
         (.call 11 [.sym 74] 85 [none]
         (.lt (.len 26) [.sym 83] 86 none
         (.lt (.len 26) [.sym 85] 87 none
         (.lt (.bin .neq 3 false false) [.sym 86, .sym 87] 88 none
         (.ite 88
          (.done (.bool false))
          (.lt (.bin .neq 3 false true) [.sym 78, .int .i64 0] 89 none
          (.ite 89
           (.done (.bool false))
           (.loop 90 0 [.int .i64 0, .sym 85, .sym 83]
            (.cons 3
            (.lt (.len 26) [.sym 91] 93 none
            (.lt (.bin .lss 3 false false) [.sym 90, .sym 93] 94 none
            (.ite 94
             (.lt (.iaddr 26) [.sym 92, .sym 90] 95 none
             (.lt (.load 29) [.sym 95] 96 (some 4)
             (.lt (.iaddr 26) [.sym 91, .sym 90] 100 none
             (.lt (.load 29) [.sym 100] 101 (some 4)
             (.lt (.bin .neq 29 false false) [.agg [.sym 96, .sym 97, .sym 98, .sym 99], .agg [.sym 101, .sym 102, .sym 103, .sym 104]] 105 none
             (.ite 105
              (.done (.bool false))
              (.lt (.bin .add 3 false true) [.sym 90, .int .i64 1] 106 none
              (.again 2 0 [.sym 106, .sym 91, .sym 92]))))))))
             (.done (.bool true)))))
            .nil)))))))))
         (.lt (.bin .add 3 false true) [.sym 73, .int .i64 1] 85 none
         (.again 1 0 [.sym 83, .sym 85, .sym 74, .sym 78])))))))))))
      (.call 11 [.sym 74] 77 [none]
      (.lt (.len 26) [.sym 72] 78 none
      (.lt (.len 26) [.sym 77] 79 none
      (.lt (.bin .neq 3 false false) [.sym 78, .sym 79] 80 none
      (.ite 80
       (.done (.bool false))
       (.lt (.bin .neq 3 false true) [.sym 75, .int .i64 0] 81 none
       (.ite 81
        (.done (.bool false))
        (.loop 82 0 [.int .i64 0, .sym 77, .sym 72]
         (.cons 3
         (.lt (.len 26) [.sym 83] 85 none
         (.lt (.bin .lss 3 false false) [.sym 82, .sym 85] 86 none
         (.ite 86
          (.lt (.iaddr 26) [.sym 84, .sym 82] 87 none
          (.lt (.load 29) [.sym 87] 88 (some 4)
          (.lt (.iaddr 26) [.sym 83, .sym 82] 92 none
          (.lt (.load 29) [.sym 92] 93 (some 4)
          (.lt (.bin .neq 29 false false) [.agg [.sym 88, .sym 89, .sym 90, .sym 91], .agg [.sym 93, .sym 94, .sym 95, .sym 96]] 97 none
          (.ite 97
           (.done (.bool false))
           (.lt (.bin .add 3 false true) [.sym 82, .int .i64 1] 98 none
           (.again 2 0 [.sym 98, .sym 83, .sym 84]))))))))
          (.done (.bool true)))))
         .nil)))))))))))
     .nil)))))
   .nil))))))
theorem app_of {P : Program} {α : Type} {enc : α → List AV} {sz bytes : Nat} (hw : ∀ a, (enc a).length = sz) (hsz : 0 < sz) (hb : 0 < bytes) (l l' : List α) {a' : AV} (h' : SlV enc sz l' a') (hl : (l.length + l'.length) * bytes ≤ 1073741824) :
    (XOp.app sz bytes).run P [sliceOf enc sz l, a'] = some (sliceOf enc sz (l ++ l')) := by
  by_cases hne : l ++ l' = []
  · obtain ⟨rfl, rfl⟩ := List.append_eq_nil_iff.1 hne
    show (match appArg sz a' with | some (n, l') => appV sz bytes .nsl n l' | none => none) = _
    rw [h'.arg hw]
    show appV sz bytes .nsl 0 [] = some .nsl
    unfold appV
    have hd : decide (([] : List AV).length = 0 * sz) = true := by simp
    simp only [hd]
  · obtain ⟨r, h1, h2⟩ := (SlV.of l).app (P := P) hw hsz hb h' hl
    rw [h1, h2.eq hne]
theorem take_page (T : List GTag) (k : Nat) : T.take k ++ pageF T k = T.take (k + 5) := by
  unfold pageF; rw [List.take_add]
theorem p6 (g : Int) : Pure Tryd.prog 6 [.int .u16 g] (.bool true) := by
  refine pure_shape (sh := [none]) (ls := [.int .u16 g]) (c := c6) (n := 300) (t := t6) mo ov rfl rfl rfl (fun Y _ => known0 _) rfl (by kernel_rfl) fun Y hf hg => ?_
  unfold t6
  obtain ⟨pv, hpv⟩ : ∃ pv, pv = playV := ⟨_, rfl⟩
  have p9' : Pure Tryd.prog 9 [] (vrs pv) := by rw [hpv]; exact p9
  have h12 : pv.length = 12 := by rw [hpv]; rfl
  refine VOK_call p15 rfl rfl (VOK_lt (run_not ..) rfl (VOK_iteF rfl (VOK_call p9' rfl (okC1 (okVrs _)) ?_)))
  refine VOK_loop (ι := Nat) (fun i => [.int .i64 i, vrs (selF g (pv.take i) 0)]) (fun i => i ≤ pv.length) (fun i => pv.length - i) 0 (Nat.zero_le _) rfl
    (fun i _ => by simp only [okL, okC, okVrs]) (fun i j _ _ h => ?_) (fun i hi => ?_)
  · simp at h; have h : i = j := by omega
    rw [h]
  refine VOK_lt (len22 _) rfl (VOK_lt (run_lss ..) rfl (VOK_ite rfl (fun hlt => ?_) (fun hlt => ?_)))
  · -- one is looked at
    have hlt : i < pv.length := by simp only [decide_eq_true_eq] at hlt; omega
    have hti : (pv.take i).length = i := by rw [List.length_take]; omega
    have hsn := selF_snoc g pv[i] (pv.take i) 0
    rw [← take_snoc pv hlt, Nat.zero_add, hti] at hsn
    refine VOK_lt (run_shr g i) rfl (VOK_lt (run_and1 g i) rfl (VOK_lt (run_eql ..) rfl (VOK_ite rfl (fun hb => ?_) (fun hb => ?_))))
    · have hb : bitF g i = 0 := by simpa using hb
      rw [if_pos hb] at hsn
      refine VOK_lt (ia22 hlt) (encL_ok okVar _) (VOK_ltN (ld39 hlt) rfl rfl (VOK_lt (app10_88 _ _ ?_) (okVrs _) (VOK_lt (run_add ..) rfl (VOK_again rfl ⟨i + 1, hlt, ?_, by omega⟩))))
      · have := (selF_sub g (pv.take i) 0).length_le; omega
      · rw [hsn, ← wrapS hlt (by omega)]; rfl
    · have hb : ¬ bitF g i = 0 := by simpa using hb
      rw [if_neg hb, List.append_nil] at hsn
      refine VOK_lt (run_add ..) rfl (VOK_again rfl ⟨i + 1, hlt, ?_, by omega⟩)
      rw [hsn, ← wrapS hlt (by omega)]; rfl
  -- what is left
  have he : i = pv.length := by simp only [decide_eq_false_iff_not] at hlt; omega
  subst he
  rw [List.take_length]
  generalize hl : selF g pv 0 = l
  have hsub : l.Sublist playV := by rw [← hl, ← hpv]; exact selF_sub g pv 0
  have ho := own_sub hsub
  have hle := ho.le
  have hTl := tagsF_le l 0 ho.all
  have p10' := p10 l (by omega) ho.plain ho.may
  have p11' := p11 l ho
  generalize tagsF l 0 = T at *
  have hTl : T.length ≤ 96 := by omega
  refine VOK_loop (ι := Nat) (fun i => [tags (T.take (5 * i)), .int .i64 i, vrs l, .int .i64 ((5 * i : Nat) : Int)]) (fun i => 5 * i ≤ T.length) (fun i => 100 - i) 0 (Nat.zero_le _) rfl
    (fun i _ => by simp only [okL, okC, okVrs, okTags]) (fun i j _ _ h => ?_) (fun i hi => ?_)
  · simp at h; have h : i = j := by omega
    rw [h]
  obtain ⟨r, hv, p16'⟩ := p16 (a := vrs l) (okVrs l) (T := T) (by omega) p10' hi
  have hR := pageF_len T (5 * i)
  have htk := take_page T (5 * i)
  have happ := app_of (P := Tryd.prog) (enc := encTag) (sz := 4) (bytes := 40) lenTag (by decide) (by decide) (T.take (5 * i)) (pageF T (5 * i)) hv (by rw [List.length_take]; omega)
  rw [htk] at happ
  have hgtr : (XOp.bin .gtr 3 false true).run Tryd.prog [.int .i64 ((pageF T (5 * i)).length : Int), .int .i64 5] = some (.bool false) := by rw [run_gtr, decide_eq_false (by omega)]
  have hlss : (XOp.bin .lss 3 false true).run Tryd.prog [.int .i64 (i : Int), .int .i64 20] = some (.bool true) := by rw [run_lss, decide_eq_true (by omega)]
  refine VOK_lt hlss rfl (VOK_iteT rfl (VOK_call p16' rfl (by simp only [okL, hv.ok okTag, okC]) (VOK_lt (neq_self ..) rfl (VOK_iteF rfl ?_))))
  refine VOK_lt (lenT hv) rfl (VOK_lt hgtr rfl (VOK_iteF rfl (VOK_lt happ (okTags _) (VOK_lt (run_eql ..) rfl (VOK_ite rfl (fun hn => ?_) (fun hn => ?_))))))
  · -- the last page
    have hn : nextF T (5 * i) = 0 := by simpa using hn
    have h5 : T.length ≤ 5 * i + 5 := by
      unfold nextF at hn
      split at hn
      · assumption
      · omega
    rw [List.take_of_length_le h5]
    have hnz : (XOp.bin .neq 3 false true).run Tryd.prog [.int .i64 (nextF T (5 * i)), .int .i64 0] = some (.bool false) := by rw [hn]; exact neq_self ..
    refine VOK_call p11' rfl (okC1 (okTags _)) (VOK_lt (len26 T) rfl (VOK_lt (len26 T) rfl (VOK_lt (neq_self ..) rfl (VOK_iteF rfl (VOK_lt hnz rfl (VOK_iteF rfl ?_))))))
    refine VOK_loop (ι := Nat) (fun j => [.int .i64 j, tags T, tags T]) (fun j => j ≤ T.length) (fun j => T.length - j) 0 (Nat.zero_le _) rfl
      (fun i _ => by simp only [okL, okC, okTags]) (fun i j _ _ h => ?_) (fun j hj => ?_)
    · simp at h; have h : i = j := by omega
      rw [h]
    refine VOK_lt (len26 T) rfl (VOK_lt (run_lss ..) rfl (VOK_ite rfl (fun hlt => ?_) (fun hlt => VOK_done rfl)))
    have hlt : j < T.length := by simp only [decide_eq_true_eq] at hlt; omega
    refine VOK_lt (iaT (SlV.of T) hlt) (encL_ok okTag _) (VOK_ltN (ld29 hlt) rfl rfl (VOK_lt (iaT (SlV.of T) hlt) (encL_ok okTag _) (VOK_ltN (ld29 hlt) rfl rfl (VOK_lt (run_neq_tag _) rfl (VOK_iteF rfl (VOK_lt (run_add ..) rfl (VOK_again rfl ⟨j + 1, hlt, ?_, by omega⟩)))))))
    rw [← wrapS hlt (by omega)]; rfl
  · -- the next page
    have hn : ¬ nextF T (5 * i) = 0 := by simpa using hn
    have h5 : ¬ T.length ≤ 5 * i + 5 := fun h => hn (by unfold nextF; rw [if_pos h])
    have hnx : nextF T (5 * i) = ((5 * (i + 1) : Nat) : Int) := by unfold nextF; rw [if_neg h5]; rfl
    refine VOK_lt (run_add ..) rfl (VOK_again rfl ⟨i + 1, by omega, ?_, by omega⟩)
    rw [← wrapS (show i < 20 by omega) (by omega), ← hnx]; rfl
end Go.Proofs.YtbceomdmpbmnkaaDoor.vars
