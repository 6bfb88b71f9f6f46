/-
  What a page of tags is, by its tree; the law BrowFrom answers true.
-/
import Derived.Test.YtbceomdmpbmnkaaDoorVC
import Derived.KernelRfl
import Derived.Test.YtbceomdmpbmnkaaDoorSyG
set_option maxRecDepth 100000
set_option linter.unusedVariables false
set_option linter.unusedSimpArgs false
namespace Go.Proofs.YtbceomdmpbmnkaaDoor.vars
open Go Go.Sx
abbrev TagV (l : List GTag) (a : AV) : Prop := SlV encTag 4 l a
def c16 : VC := ⟨⟨[], []⟩, [(10, [none])], []⟩
def t16 : VT :=
 (.call 10 [.sym 64] 66 [none]
 (.lt (.bin .lss 3 false true) [.sym 65, .int .i64 0] 67 none
 (.ite 67
  (.done (.tup [.nsl, .int .i64 0, .int .i64 1]))
  (.lt (.len 26) [.sym 66] 68 none
  (.lt (.bin .gtr 3 false false) [.sym 65, .sym 68] 69 none
  (.ite 69
   (.done (.tup [.nsl, .int .i64 0, .int .i64 1]))
   (.lt (.bin .add 3 false true) [.sym 65, .int .i64 5] 70 none
   (.lt (.len 26) [.sym 66] 71 none
   (.lt (.bin .geq 3 false false) [.sym 70, .sym 71] 72 none
   (.ite 72
    (.lt (.slc 26 true false) [.sym 66, .sym 65] 73 none
    (.done (.tup [.sym 73, .int .i64 0, .int .i64 0])))
    (.lt (.slc 26 true true) [.sym 66, .sym 65, .sym 70] 73 none
    (.done (.tup [.sym 73, .sym 70, .int .i64 0])))))))))))))
/-- from which one on the next page is -/
def nextF (T : List GTag) (k : Nat) : Int := if T.length ≤ k + 5 then 0 else ((k + 5 : Nat) : Int)
def pageF (T : List GTag) (k : Nat) : List GTag := (T.drop k).take 5
theorem p16 {a : AV} (ha : okC a = true) {T : List GTag} (hT : T.length ≤ 1000) (p10' : Pure Tryd.prog 10 [a] (tags T)) {k : Nat} (hk : k ≤ T.length) :
    ∃ r, TagV (pageF T k) r ∧ Pure Tryd.prog 16 [a, .int .i64 (k : Int)] (.tup [r, .int .i64 (nextF T k), .int .i64 0]) := by
  have hw : IntKind.i64.wrap ((k : Int) + 5) = ((k + 5 : Nat) : Int) := by rw [wrap64 (by omega) (by omega)]; rfl
  have hs1 := SlV.slc10 (P := Tryd.prog) (ti := (Tryd.prog.info? 29).get!) Tryd.underlying26 (by kernel_rfl) (by kernel_rfl) lenTag (SlV.of (w := 4) T) (k := .i64) (i := k) hk
  by_cases h5 : T.length ≤ k + 5
  · obtain ⟨r, hr, hv⟩ := hs1
    have e : T.drop k = pageF T k := by unfold pageF; rw [List.take_of_length_le]; rw [List.length_drop]; omega
    rw [e] at hv
    refine ⟨r, hv, ?_⟩
    refine pure_shape (sh := [none, none]) (ls := [a, .int .i64 k]) (c := c16) (n := 300) (t := t16) mo ov rfl (by simp only [okL, ha, okC]) (by simp only [noRef, noRefL, okC_noRef (hv.ok okTag)]) (fun Y _ => known0 _) rfl (by kernel_rfl) fun Y hf hg => ?_
    unfold t16
    refine VOK_call p10' rfl (okC1 (okTags _)) (VOK_lt (run_lss ..) rfl (VOK_ite rfl (fun h => ?_) (fun _ => VOK_lt (len26 T) rfl (VOK_lt (run_gtr ..) rfl (VOK_ite rfl (fun h => ?_) (fun _ => VOK_lt (run_add ..) rfl (VOK_lt (len26 T) rfl (VOK_lt (run_geq ..) rfl (VOK_ite rfl (fun h => VOK_lt hr (hv.ok okTag) (VOK_done ?_)) (fun h => ?_))))))))))
    · simp only [decide_eq_true_eq] at h; omega
    · simp only [decide_eq_true_eq] at h; omega
    · show AV.tup [r, .int .i64 0, .int .i64 0] = _
      unfold nextF; rw [if_pos h5]
    · rw [hw] at h; simp only [decide_eq_false_iff_not] at h; omega
  · obtain ⟨r, hr, hv⟩ := SlV.slc11 (P := Tryd.prog) (ti := (Tryd.prog.info? 29).get!) Tryd.underlying26 (by kernel_rfl) (by kernel_rfl) lenTag (SlV.of (w := 4) T) (k := .i64) (k' := .i64) (i := k) (j := k + 5) (by omega) (by omega)
    have e : (T.take (k + 5)).drop k = pageF T k := by unfold pageF; rw [List.drop_take]; congr 1; omega
    rw [e] at hv
    rw [← hw] at hr
    refine ⟨r, hv, ?_⟩
    refine pure_shape (sh := [none, none]) (ls := [a, .int .i64 k]) (c := c16) (n := 300) (t := t16) mo ov rfl (by simp only [okL, ha, okC]) (by simp only [noRef, noRefL, okC_noRef (hv.ok okTag)]) (fun Y _ => known0 _) rfl (by kernel_rfl) fun Y hf hg => ?_
    unfold t16
    refine VOK_call p10' rfl (okC1 (okTags _)) (VOK_lt (run_lss ..) rfl (VOK_ite rfl (fun h => ?_) (fun _ => VOK_lt (len26 T) rfl (VOK_lt (run_gtr ..) rfl (VOK_ite rfl (fun h => ?_) (fun _ => VOK_lt (run_add ..) rfl (VOK_lt (len26 T) rfl (VOK_lt (run_geq ..) rfl (VOK_ite rfl (fun h => ?_) (fun h => VOK_lt hr (hv.ok okTag) (VOK_done ?_)))))))))))
    · simp only [decide_eq_true_eq] at h; omega
    · simp only [decide_eq_true_eq] at h; omega
    · rw [hw] at h; simp only [decide_eq_true_eq] at h; omega
    · show AV.tup [r, .int .i64 (IntKind.i64.wrap ((k : Int) + 5)), .int .i64 0] = _
      unfold nextF; rw [if_neg h5, hw]
/-- there are not so many -/
theorem p16n {a : AV} (ha : okC a = true) {T : List GTag} (p10' : Pure Tryd.prog 10 [a] (tags T)) {k : Int} (hk : k < 0 ∨ (T.length : Int) < k) : Pure Tryd.prog 16 [a, .int .i64 k] (.tup [.nsl, .int .i64 0, .int .i64 1]) := by
  refine pure_shape (sh := [none, none]) (ls := [a, .int .i64 k]) (c := c16) (n := 300) (t := t16) mo ov rfl (by simp only [okL, ha, okC]) rfl (fun Y _ => known0 _) rfl (by kernel_rfl) fun Y hf hg => ?_
  unfold t16
  refine VOK_call p10' rfl (okC1 (okTags _)) (VOK_lt (run_lss ..) rfl (VOK_ite rfl (fun h => VOK_done rfl) (fun h => VOK_lt (len26 T) rfl (VOK_lt (run_gtr ..) rfl (VOK_ite rfl (fun h => VOK_done rfl) (fun h' => ?_))))))
  simp only [decide_eq_false_iff_not] at h h'; omega
theorem p15 : Pure Tryd.prog 15 [] (.bool true) := memo_ok (n := 300) mo ov (by kernel_rfl)
theorem run_min {P : Program} (k : IntKind) (a b : Int) : (XOp.mm false).run P [.int k a, .int k b] = some (.int k (min a b)) := by
  show (match Nat.beq (kix k) (kix k) with | true => some (AV.int k (min a b)) | false => none) = _
  rw [kix_self]
theorem run_neqb (cx cy : Bool) (a b : Bool) : (XOp.bin .neq 4 cx cy).run Tryd.prog [.bool a, .bool b] = some (.bool (a != b)) := by
  cases cx <;> cases cy <;> cases a <;> cases b <;> kernel_rfl
theorem eqB_self (s : List UInt8) : eqB s s = true := by rw [eqB_eq]; simp
theorem eqI_self (n : Int) : eqI n n = true := by rw [eqI_eq]; simp
theorem run_neq_tag (t : GTag) : (XOp.bin .neq 29 false false).run Tryd.prog [.agg (encTag t), .agg (encTag t)] = some (.bool false) := by
  obtain ⟨p, a, k, r⟩ := t
  have h : (XOp.bin .neq 29 false false).run Tryd.prog [.agg (encTag ⟨p, a, k, r⟩), .agg (encTag ⟨p, a, k, r⟩)] =
      (match (match eqB p p with | true => (match eqI a a with | true => (match eqI k k with | true => (match eqI r r with | true => some true | false => some false) | false => some false) | false => some false) | false => some false) with | some b => some (AV.bool (xor true b)) | none => none) := by kernel_rfl
  rw [h, eqB_self, eqI_self, eqI_self, eqI_self]
  rfl
end Go.Proofs.YtbceomdmpbmnkaaDoor.vars
/-
  The law BrowFrom answers true, from whichever tag on, whichever variables are left out.
-/
set_option maxRecDepth 100000
set_option linter.unusedVariables false
set_option linter.unusedSimpArgs false
namespace Go.Proofs.YtbceomdmpbmnkaaDoor.vars
open Go Go.Sx
def c7 : VC := ⟨⟨[], []⟩, [(8, [none]), (9, [none]), (16, [none, none, none]), (11, [none]), (15, [none])], [(0, [⟨[(6, .slx 0 0 0), (7, .sym 68), (5, .slx 0 10 1), (1, .sym 65), (0, .sym 64)], [], 1, 2, [⟨0, 10, 1, 5, none⟩], []⟩]), (2, [⟨[(13, .slx 0 0 0), (9, .sym 77), (8, .sym 73), (10, .sym 78)], [], 0, 1, [], []⟩])]⟩
def t7 : VT :=
 (.call 15 [] 66 [none]
 (.lt (.un .not) [.sym 66] 67 none
 (.ite 67
  (.done (.bool false))
  (.call 9 [] 68 [none]
  (.loop 69 0 [.int .i64 0, .nsl]
   (.cons 2
   (.lt (.len 22) [.sym 68] 71 none
   (.lt (.bin .lss 3 false false) [.sym 69, .sym 71] 72 none
   (.ite 72
    (.lt (.bin .shr 34 false false) [.sym 65, .sym 69] 73 none
    (.lt (.bin .and 34 false true) [.sym 73, .int .u16 1] 74 none
    (.lt (.bin .eql 34 false true) [.sym 74, .int .u16 0] 75 none
    (.ite 75
     (.lt (.iaddr 22) [.sym 68, .sym 69] 76 none
     (.lt (.load 39) [.sym 76] 77 (some 10)
     (.lt (.app 10 88) [.sym 70, .agg [.sym 77, .sym 78, .sym 79, .sym 80, .sym 81, .sym 82, .sym 83, .sym 84, .sym 85, .sym 86]] 87 none
     (.lt (.bin .add 3 false true) [.sym 69, .int .i64 1] 88 none
     (.again 0 0 [.sym 88, .sym 87])))))
     (.lt (.bin .add 3 false true) [.sym 69, .int .i64 1] 76 none
     (.again 0 0 [.sym 76, .sym 70]))))))
    (.call 11 [.sym 70] 73 [none]
    (.lt (.conv 5 3) [.sym 64] 74 none
    (.lt (.len 26) [.sym 73] 75 none
    (.lt (.bin .add 3 false true) [.sym 75, .int .i64 1] 76 none
    (.lt (.bin .rem 3 false false) [.sym 74, .sym 76] 77 none
    (.call 16 [.sym 70, .sym 77] 78 [none, none, none]
    (.lt (.bin .neq 43 false true) [.sym 80, .int .i64 0] 81 none
    (.ite 81
     (.done (.bool false))
     (.lt (.len 26) [.sym 78] 82 none
     (.lt (.len 26) [.sym 73] 83 none
     (.lt (.bin .sub 3 false false) [.sym 83, .sym 77] 84 none
     (.lt (.mm false) [.sym 84, .int .i64 5] 85 none
     (.lt (.bin .neq 3 false false) [.sym 82, .sym 85] 86 none
     (.ite 86
      (.done (.bool false))
      (.lt (.bin .eql 3 false true) [.sym 79, .int .i64 0] 87 none
      (.lt (.len 26) [.sym 78] 88 none
      (.lt (.bin .add 3 false false) [.sym 77, .sym 88] 89 none
      (.lt (.len 26) [.sym 73] 90 none
      (.lt (.bin .eql 3 false false) [.sym 89, .sym 90] 91 none
      (.lt (.bin .neq 4 false false) [.sym 87, .sym 91] 92 none
      (.ite 92
       (.done (.bool false))
       (.lt (.bin .neq 3 false true) [.sym 79, .int .i64 0] 93 none
       (.ite 93
        (.lt (.len 26) [.sym 78] 94 none
        (.lt (.bin .add 3 false false) [.sym 77, .sym 94] 95 none
        (.lt (.bin .neq 3 false false) [.sym 79, .sym 95] 96 none
        (.ite 96
         (.done (.bool false))
         (.loop 97 0 [.int .i64 0]
          (.cons 1
          (.lt (.len 26) [.sym 78] 98 none
          (.lt (.bin .lss 3 false false) [.sym 97, .sym 98] 99 none
          (.ite 99
           (.lt (.iaddr 26) [.sym 78, .sym 97] 100 none
           (.lt (.load 29) [.sym 100] 101 (some 4)
           (.lt (.bin .add 3 false false) [.sym 77, .sym 97] 105 none
           (.lt (.iaddr 26) [.sym 73, .sym 105] 106 none
           (.lt (.load 29) [.sym 106] 107 (some 4)
           (.lt (.bin .neq 29 false false) [.agg [.sym 101, .sym 102, .sym 103, .sym 104], .agg [.sym 107, .sym 108, .sym 109, .sym 110]] 111 none
           (.ite 111
            (.done (.bool false))
            (.lt (.bin .add 3 false true) [.sym 97, .int .i64 1] 112 none
            (.again 1 0 [.sym 112])))))))))
           (.done (.bool true)))))
          .nil))))))
        (.loop 94 0 [.int .i64 0]
         (.cons 1
         (.lt (.len 26) [.sym 78] 95 none
         (.lt (.bin .lss 3 false false) [.sym 94, .sym 95] 96 none
         (.ite 96
          (.lt (.iaddr 26) [.sym 78, .sym 94] 97 none
          (.lt (.load 29) [.sym 97] 98 (some 4)
          (.lt (.bin .add 3 false false) [.sym 77, .sym 94] 102 none
          (.lt (.iaddr 26) [.sym 73, .sym 102] 103 none
          (.lt (.load 29) [.sym 103] 104 (some 4)
          (.lt (.bin .neq 29 false false) [.agg [.sym 98, .sym 99, .sym 100, .sym 101], .agg [.sym 104, .sym 105, .sym 106, .sym 107]] 108 none
          (.ite 108
           (.done (.bool false))
           (.lt (.bin .add 3 false true) [.sym 94, .int .i64 1] 109 none
           (.again 1 0 [.sym 109])))))))))
          (.done (.bool true)))))
         .nil))))))))))))))))))))))))))))
   .nil))))))
theorem run_rem {t : TypeId} {cx cy : Bool} (n m : Nat) (hm : m ≠ 0) : (XOp.bin .rem t cx cy).run Tryd.prog [.int .i64 (n : Int), .int .i64 (m : Int)] = some (.int .i64 ((n % m : Nat) : Int)) :=
  rem_run (P := Tryd.prog) (k := .i64) (x := (n : Int)) (c := (m : Int)) (r := ((n % m : Nat) : Int)) (by omega) (by rw [Int.tmod_eq_emod_of_nonneg (by omega)]; rfl) t cx cy
theorem pageF_len (T : List GTag) (k : Nat) : (pageF T k).length = min 5 (T.length - k) := by
  unfold pageF; rw [List.length_take, List.length_drop]
theorem pageF_at (T : List GTag) (k i : Nat) (h : i < (pageF T k).length) (h' : k + i < T.length) : (pageF T k)[i] = T[k + i] := by
  simp only [pageF, List.getElem_take, List.getElem_drop]
theorem iaT {l : List GTag} {a : AV} (h : TagV l a) {i : Nat} (hl : i < l.length) : (XOp.iaddr 26).run Tryd.prog [a, .int .i64 (i : Int)] = some (.vptr (encL encTag (l.drop i))) :=
  h.ia (ti := (Tryd.prog.info? 29).get!) Tryd.underlying26 (by kernel_rfl) (by kernel_rfl) lenTag hl .i64
theorem lenT {l : List GTag} {a : AV} (h : TagV l a) : (XOp.len 26).run Tryd.prog [a] = some (.int .i64 (l.length : Int)) := h.len Tryd.underlying26
theorem ld29 {l : List GTag} {i : Nat} (h : i < l.length) : (XOp.load 29).run Tryd.prog [.vptr (encL encTag (l.drop i))] = some (.agg (encTag l[i])) :=
  run_load_agg (ti := (Tryd.prog.info? 29).get!) Tryd.underlying29 rfl (by kernel_rfl) (by kernel_rfl) lenTag h
theorem wN {n : Nat} (h : n ≤ 100000) : IntKind.i64.wrap ((n : Nat) : Int) = ((n : Nat) : Int) := wrap64 (by omega) (by omega)
theorem addN {t : TypeId} {cx cy : Bool} {a b : Nat} (h : a + b ≤ 100000) : (XOp.bin .add t cx cy).run Tryd.prog [.int .i64 (a : Int), .int .i64 (b : Int)] = some (.int .i64 ((a + b : Nat) : Int)) := by
  rw [run_add, wrap64 (by omega) (by omega)]; rfl
theorem p7 (from' : Nat) (hfr : from' < 256) (g : Int) : Pure Tryd.prog 7 [.int .u8 (from' : Int), .int .u16 g] (.bool true) := by
  refine pure_shape (sh := [none, none]) (ls := [.int .u8 from', .int .u16 g]) (c := c7) (n := 300) (t := t7) mo ov rfl rfl rfl (fun Y _ => known0 _) rfl (by kernel_rfl) fun Y hf hg => ?_
  unfold t7
  obtain ⟨pv, hpv⟩ : ∃ pv, pv = playV := ⟨_, rfl⟩
  have p9' : Pure Tryd.prog 9 [] (vrs pv) := by rw [hpv]; exact p9
  have h12 : pv.length = 12 := by rw [hpv]; rfl
  refine VOK_call p15 rfl rfl (VOK_lt (run_not ..) rfl (VOK_iteF rfl (VOK_call p9' rfl (okC1 (okVrs _)) ?_)))
  refine VOK_loop (ι := Nat) (fun i => [.int .i64 i, vrs (selF g (pv.take i) 0)]) (fun i => i ≤ pv.length) (fun i => pv.length - i) 0 (Nat.zero_le _) rfl
    (fun i _ => by simp only [okL, okC, okVrs]) (fun i j _ _ h => ?_) (fun i hi => ?_)
  · simp at h; have h : i = j := by omega
    rw [h]
  refine VOK_lt (len22 _) rfl (VOK_lt (run_lss ..) rfl (VOK_ite rfl (fun hlt => ?_) (fun hlt => ?_)))
  · -- one is looked at
    have hlt : i < pv.length := by simp only [decide_eq_true_eq] at hlt; omega
    have hti : (pv.take i).length = i := by rw [List.length_take]; omega
    have hsn := selF_snoc g pv[i] (pv.take i) 0
    rw [← take_snoc pv hlt, Nat.zero_add, hti] at hsn
    refine VOK_lt (run_shr g i) rfl (VOK_lt (run_and1 g i) rfl (VOK_lt (run_eql ..) rfl (VOK_ite rfl (fun hb => ?_) (fun hb => ?_))))
    · have hb : bitF g i = 0 := by simpa using hb
      rw [if_pos hb] at hsn
      refine VOK_lt (ia22 hlt) (encL_ok okVar _) (VOK_ltN (ld39 hlt) rfl rfl (VOK_lt (app10_88 _ _ ?_) (okVrs _) (VOK_lt (run_add ..) rfl (VOK_again rfl ⟨i + 1, hlt, ?_, by omega⟩))))
      · have := (selF_sub g (pv.take i) 0).length_le; omega
      · rw [hsn, ← wrapS hlt (by omega)]; rfl
    · have hb : ¬ bitF g i = 0 := by simpa using hb
      rw [if_neg hb, List.append_nil] at hsn
      refine VOK_lt (run_add ..) rfl (VOK_again rfl ⟨i + 1, hlt, ?_, by omega⟩)
      rw [hsn, ← wrapS hlt (by omega)]; rfl
  -- what is left
  have he : i = pv.length := by simp only [decide_eq_false_iff_not] at hlt; omega
  subst he
  rw [List.take_length]
  generalize hl : selF g pv 0 = l
  have hsub : l.Sublist playV := by rw [← hl, ← hpv]; exact selF_sub g pv 0
  have ho := own_sub hsub
  have hle := ho.le
  have hTl := tagsF_le l 0 ho.all
  have p10' := p10 l (by omega) ho.plain ho.may
  have p11' := p11 l ho
  generalize tagsF l 0 = T at *
  have hTl : T.length ≤ 200 := by omega
  generalize hK : from' % (T.length + 1) = k
  have hkT : k ≤ T.length := by have := Nat.mod_lt from' (show T.length + 1 > 0 by omega); omega
  obtain ⟨r, hv, p16'⟩ := p16 (a := vrs l) (okVrs l) (T := T) (by omega) p10' hkT
  have hR := pageF_len T k
  have hcv : (XOp.conv 5 3).run Tryd.prog [.int .u8 (from' : Int)] = some (.int .i64 (from' : Int)) := by rw [cv_int Tryd.underlying5 Tryd.underlying3, wrap64 (by omega) (by omega)]
  have hrem : (XOp.bin .rem 3 false false).run Tryd.prog [.int .i64 (from' : Int), .int .i64 ((T.length + 1 : Nat) : Int)] = some (.int .i64 (k : Int)) := by rw [run_rem _ _ (by omega), hK]
  have hsub2 : (XOp.bin .sub 3 false false).run Tryd.prog [.int .i64 (T.length : Int), .int .i64 (k : Int)] = some (.int .i64 ((T.length - k : Nat) : Int)) := by rw [run_sub, wrap64 (by omega) (by omega)]; congr 2; omega
  have hmn : (XOp.mm false).run Tryd.prog [.int .i64 ((T.length - k : Nat) : Int), .int .i64 5] = some (.int .i64 ((pageF T k).length : Int)) := by rw [run_min, hR]; congr 2; omega
  refine VOK_call p11' rfl (okC1 (okTags _)) (VOK_lt hcv rfl (VOK_lt (len26 T) rfl (VOK_lt (addN (a := T.length) (b := 1) (by omega)) rfl (VOK_lt hrem rfl ?_))))
  refine VOK_call p16' rfl (by simp only [okL, hv.ok okTag, okC]) (VOK_lt (neq_self ..) rfl (VOK_iteF rfl ?_))
  refine VOK_lt (lenT hv) rfl (VOK_lt (len26 T) rfl (VOK_lt hsub2 rfl (VOK_lt hmn rfl (VOK_lt (neq_self ..) rfl (VOK_iteF rfl ?_)))))
  refine VOK_lt (run_eql ..) rfl (VOK_lt (lenT hv) rfl (VOK_lt (addN (by omega)) rfl (VOK_lt (len26 T) rfl (VOK_lt (run_eql ..) rfl (VOK_lt (run_neqb ..) rfl ?_)))))
  have hb : ((decide (nextF T k = 0)) != decide (((k + (pageF T k).length : Nat) : Int) = (T.length : Int))) = false := by
    unfold nextF
    split
    · have : ((k + (pageF T k).length : Nat) : Int) = (T.length : Int) := by omega
      rw [this]; simp
    · have h1 : ¬ ((k + 5 : Nat) : Int) = 0 := by omega
      have h2 : ¬ ((k + (pageF T k).length : Nat) : Int) = (T.length : Int) := by omega
      rw [decide_eq_false h1, decide_eq_false h2]; rfl
  rw [hb]
  refine VOK_iteF rfl (VOK_lt (run_neq ..) rfl (VOK_ite rfl (fun hn => ?_) (fun hn => ?_)))
  all_goals (try refine VOK_lt (lenT hv) rfl (VOK_lt (addN (by omega)) rfl (VOK_lt (r := .bool false) ?_ rfl (VOK_iteF rfl ?_))))
  all_goals (try (
    refine VOK_loop (ι := Nat) (fun i => [.int .i64 i]) (fun i => i ≤ (pageF T k).length) (fun i => (pageF T k).length - i) 0 (Nat.zero_le _) rfl
      (fun i _ => rfl) (fun i j _ _ h => ?_) (fun i hi => ?_)
    · simp at h; have h : i = j := by omega
      rw [h]
    refine VOK_lt (lenT hv) rfl (VOK_lt (run_lss ..) rfl (VOK_ite rfl (fun hlt => ?_) (fun hlt => VOK_done rfl)))
    have hlt : i < (pageF T k).length := by simp only [decide_eq_true_eq] at hlt; omega
    have hlt2 : k + i < T.length := by omega
    have hat := pageF_at T k i hlt hlt2
    have hne := run_neq_tag (T[k + i])
    refine VOK_lt (iaT hv hlt) (encL_ok okTag _) (VOK_ltN (ld29 hlt) rfl rfl (VOK_lt (addN (by omega)) rfl (VOK_lt (iaT (SlV.of T) hlt2) (encL_ok okTag _) (VOK_ltN (ld29 hlt2) rfl rfl (VOK_lt (r := .bool false) ?_ rfl (VOK_iteF rfl (VOK_lt (run_add ..) rfl (VOK_again rfl ⟨i + 1, hlt, ?_, by omega⟩))))))))
    · rw [← hne, ← hat]; rfl
    · rw [← wrapS hlt (by omega)]; rfl))
  · show (XOp.bin .neq 3 false false).run Tryd.prog [.int .i64 (nextF T k), .int .i64 ((k + (pageF T k).length : Nat) : Int)] = _
    have : nextF T k = ((k + (pageF T k).length : Nat) : Int) := by
      have hn : ¬ nextF T k = 0 := by simpa using hn
      unfold nextF at hn ⊢
      split at hn
      · exact absurd rfl hn
      · rename_i h5; rw [if_neg h5]; omega
    rw [this]; exact neq_self ..
theorem p7w (a0 a1 : Int) (w0 : (Lit.int .u8 a0).wf = true) : Pure Tryd.prog 7 [.int .u8 a0, .int .u16 a1] (.bool true) := by
  simp only [Lit.wf, Bool.and_eq_true, decide_eq_true_eq] at w0
  have h1 : IntKind.u8.min = 0 := rfl
  have h2 : IntKind.u8.max = 255 := rfl
  obtain ⟨n, rfl⟩ : ∃ n : Nat, a0 = n := ⟨a0.toNat, by omega⟩
  exact p7 n (by omega) a1
end Go.Proofs.YtbceomdmpbmnkaaDoor.vars
/-
  The law BrowPages answers true, whichever variables are left out.
-/
set_option maxRecDepth 100000
set_option linter.unusedVariables false
set_option linter.unusedSimpArgs false
namespace Go.Proofs.YtbceomdmpbmnkaaDoor.vars
open Go Go.Sx
def c6 : VC := ⟨⟨[], []⟩, [(8, [none]), (9, [none]), (16, [none, none, none]), (11, [none]), (15, [none])], [(0, [⟨[(4, .slx 0 0 0), (5, .sym 67), (3, .slx 0 10 1), (0, .sym 64)], [], 1, 2, [⟨0, 10, 1, 3, none⟩], []⟩]), (2, [⟨[(6, .slx 0 4 0), (8, .slx 1 0 0), (3, .slx 2 0 0), (7, .slx 3 0 0)], [], 1, 4, [⟨0, 4, 0, 6, none⟩], []⟩]), (4, [⟨[(13, .slx 0 0 0), (12, .slx 1 0 0), (6, .slx 2 0 0)], [], 0, 3, [], []⟩])]⟩
def t6 : VT :=
 (.call 15 [] 65 [none]
 (.lt (.un .not) [.sym 65] 66 none
 (.ite 66
  (.done (.bool false))
  (.call 9 [] 67 [none]
  (.loop 68 0 [.int .i64 0, .nsl]
   (.cons 2
   (.lt (.len 22) [.sym 67] 70 none
   (.lt (.bin .lss 3 false false) [.sym 68, .sym 70] 71 none
   (.ite 71
    (.lt (.bin .shr 34 false false) [.sym 64, .sym 68] 72 none
    (.lt (.bin .and 34 false true) [.sym 72, .int .u16 1] 73 none
    (.lt (.bin .eql 34 false true) [.sym 73, .int .u16 0] 74 none
    (.ite 74
     (.lt (.iaddr 22) [.sym 67, .sym 68] 75 none
     (.lt (.load 39) [.sym 75] 76 (some 10)
     (.lt (.app 10 88) [.sym 69, .agg [.sym 76, .sym 77, .sym 78, .sym 79, .sym 80, .sym 81, .sym 82, .sym 83, .sym 84, .sym 85]] 86 none
     (.lt (.bin .add 3 false true) [.sym 68, .int .i64 1] 87 none
     (.again 0 0 [.sym 87, .sym 86])))))
     (.lt (.bin .add 3 false true) [.sym 68, .int .i64 1] 75 none
     (.again 0 0 [.sym 75, .sym 69]))))))
    (.loop 72 0 [.nsl, .int .i64 0, .sym 69, .int .i64 0]
     (.cons 4
     (.lt (.bin .lss 3 false true) [.sym 73, .int .i64 20] 76 none
     (.ite 76
      (.call 16 [.sym 74, .sym 75] 77 [none, none, none]
      (.lt (.bin .neq 43 false true) [.sym 79, .int .i64 0] 80 none
      (.ite 80
       (.done (.bool false))
       (.lt (.len 26) [.sym 77] 81 none
       (.lt (.bin .gtr 3 false true) [.sym 81, .int .i64 5] 82 none
       (.ite 82
        (.done (.bool false))
        (.lt (.app 4 40) [.sym 72, .sym 77] 83 none
        (.lt (.bin .eql 3 false true) [.sym 78, .int .i64 0] 84 none
        (.ite 84
         (.call 11 [.sym 74] 85 [none]
         (.lt (.len 26) [.sym 83] 86 none
         (.lt (.len 26) [.sym 85] 87 none
         (.lt (.bin .neq 3 false false) [.sym 86, .sym 87] 88 none
         (.ite 88
          (.done (.bool false))
          (.lt (.bin .neq 3 false true) [.sym 78, .int .i64 0] 89 none
          (.ite 89
           (.done (.bool false))
           (.loop 90 0 [.int .i64 0, .sym 85, .sym 83]
            (.cons 3
            (.lt (.len 26) [.sym 91] 93 none
            (.lt (.bin .lss 3 false false) [.sym 90, .sym 93] 94 none
            (.ite 94
             (.lt (.iaddr 26) [.sym 92, .sym 90] 95 none
             (.lt (.load 29) [.sym 95] 96 (some 4)
             (.lt (.iaddr 26) [.sym 91, .sym 90] 100 none
             (.lt (.load 29) [.sym 100] 101 (some 4)
             (.lt (.bin .neq 29 false false) [.agg [.sym 96, .sym 97, .sym 98, .sym 99], .agg [.sym 101, .sym 102, .sym 103, .sym 104]] 105 none
             (.ite 105
              (.done (.bool false))
              (.lt (.bin .add 3 false true) [.sym 90, .int .i64 1] 106 none
              (.again 2 0 [.sym 106, .sym 91, .sym 92]))))))))
             (.done (.bool true)))))
            .nil)))))))))
         (.lt (.bin .add 3 false true) [.sym 73, .int .i64 1] 85 none
         (.again 1 0 [.sym 83, .sym 85, .sym 74, .sym 78])))))))))))
      (.call 11 [.sym 74] 77 [none]
      (.lt (.len 26) [.sym 72] 78 none
      (.lt (.len 26) [.sym 77] 79 none
      (.lt (.bin .neq 3 false false) [.sym 78, .sym 79] 80 none
      (.ite 80
       (.done (.bool false))
       (.lt (.bin .neq 3 false true) [.sym 75, .int .i64 0] 81 none
       (.ite 81
        (.done (.bool false))
        (.loop 82 0 [.int .i64 0, .sym 77, .sym 72]
         (.cons 3
         (.lt (.len 26) [.sym 83] 85 none
         (.lt (.bin .lss 3 false false) [.sym 82, .sym 85] 86 none
         (.ite 86
          (.lt (.iaddr 26) [.sym 84, .sym 82] 87 none
          (.lt (.load 29) [.sym 87] 88 (some 4)
          (.lt (.iaddr 26) [.sym 83, .sym 82] 92 none
          (.lt (.load 29) [.sym 92] 93 (some 4)
          (.lt (.bin .neq 29 false false) [.agg [.sym 88, .sym 89, .sym 90, .sym 91], .agg [.sym 93, .sym 94, .sym 95, .sym 96]] 97 none
          (.ite 97
           (.done (.bool false))
           (.lt (.bin .add 3 false true) [.sym 82, .int .i64 1] 98 none
           (.again 2 0 [.sym 98, .sym 83, .sym 84]))))))))
          (.done (.bool true)))))
         .nil)))))))))))
     .nil)))))
   .nil))))))
theorem app_of {P : Program} {α : Type} {enc : α → List AV} {sz bytes : Nat} (hw : ∀ a, (enc a).length = sz) (hsz : 0 < sz) (hb : 0 < bytes) (l l' : List α) {a' : AV} (h' : SlV enc sz l' a') (hl : (l.length + l'.length) * bytes ≤ 1073741824) :
    (XOp.app sz bytes).run P [sliceOf enc sz l, a'] = some (sliceOf enc sz (l ++ l')) := by
  by_cases hne : l ++ l' = []
  · obtain ⟨rfl, rfl⟩ := List.append_eq_nil_iff.1 hne
    show (match appArg sz a' with | some (n, l') => appV sz bytes .nsl n l' | none => none) = _
    rw [h'.arg hw]
    show appV sz bytes .nsl 0 [] = some .nsl
    unfold appV
    have hd : decide (([] : List AV).length = 0 * sz) = true := by simp
    simp only [hd]
  · obtain ⟨r, h1, h2⟩ := (SlV.of l).app (P := P) hw hsz hb h' hl
    rw [h1, h2.eq hne]
theorem take_page (T : List GTag) (k : Nat) : T.take k ++ pageF T k = T.take (k + 5) := by
  unfold pageF; rw [List.take_add]
theorem p6 (g : Int) : Pure Tryd.prog 6 [.int .u16 g] (.bool true) := by
  refine pure_shape (sh := [none]) (ls := [.int .u16 g]) (c := c6) (n := 300) (t := t6) mo ov rfl rfl rfl (fun Y _ => known0 _) rfl (by kernel_rfl) fun Y hf hg => ?_
  unfold t6
  obtain ⟨pv, hpv⟩ : ∃ pv, pv = playV := ⟨_, rfl⟩
  have p9' : Pure Tryd.prog 9 [] (vrs pv) := by rw [hpv]; exact p9
  have h12 : pv.length = 12 := by rw [hpv]; rfl
  refine VOK_call p15 rfl rfl (VOK_lt (run_not ..) rfl (VOK_iteF rfl (VOK_call p9' rfl (okC1 (okVrs _)) ?_)))
  refine VOK_loop (ι := Nat) (fun i => [.int .i64 i, vrs (selF g (pv.take i) 0)]) (fun i => i ≤ pv.length) (fun i => pv.length - i) 0 (Nat.zero_le _) rfl
    (fun i _ => by simp only [okL, okC, okVrs]) (fun i j _ _ h => ?_) (fun i hi => ?_)
  · simp at h; have h : i = j := by omega
    rw [h]
  refine VOK_lt (len22 _) rfl (VOK_lt (run_lss ..) rfl (VOK_ite rfl (fun hlt => ?_) (fun hlt => ?_)))
  · -- one is looked at
    have hlt : i < pv.length := by simp only [decide_eq_true_eq] at hlt; omega
    have hti : (pv.take i).length = i := by rw [List.length_take]; omega
    have hsn := selF_snoc g pv[i] (pv.take i) 0
    rw [← take_snoc pv hlt, Nat.zero_add, hti] at hsn
    refine VOK_lt (run_shr g i) rfl (VOK_lt (run_and1 g i) rfl (VOK_lt (run_eql ..) rfl (VOK_ite rfl (fun hb => ?_) (fun hb => ?_))))
    · have hb : bitF g i = 0 := by simpa using hb
      rw [if_pos hb] at hsn
      refine VOK_lt (ia22 hlt) (encL_ok okVar _) (VOK_ltN (ld39 hlt) rfl rfl (VOK_lt (app10_88 _ _ ?_) (okVrs _) (VOK_lt (run_add ..) rfl (VOK_again rfl ⟨i + 1, hlt, ?_, by omega⟩))))
      · have := (selF_sub g (pv.take i) 0).length_le; omega
      · rw [hsn, ← wrapS hlt (by omega)]; rfl
    · have hb : ¬ bitF g i = 0 := by simpa using hb
      rw [if_neg hb, List.append_nil] at hsn
      refine VOK_lt (run_add ..) rfl (VOK_again rfl ⟨i + 1, hlt, ?_, by omega⟩)
      rw [hsn, ← wrapS hlt (by omega)]; rfl
  -- what is left
  have he : i = pv.length := by simp only [decide_eq_false_iff_not] at hlt; omega
  subst he
  rw [List.take_length]
  generalize hl : selF g pv 0 = l
  have hsub : l.Sublist playV := by rw [← hl, ← hpv]; exact selF_sub g pv 0
  have ho := own_sub hsub
  have hle := ho.le
  have hTl := tagsF_le l 0 ho.all
  have p10' := p10 l (by omega) ho.plain ho.may
  have p11' := p11 l ho
  generalize tagsF l 0 = T at *
  have hTl : T.length ≤ 96 := by omega
  refine VOK_loop (ι := Nat) (fun i => [tags (T.take (5 * i)), .int .i64 i, vrs l, .int .i64 ((5 * i : Nat) : Int)]) (fun i => 5 * i ≤ T.length) (fun i => 100 - i) 0 (Nat.zero_le _) rfl
    (fun i _ => by simp only [okL, okC, okVrs, okTags]) (fun i j _ _ h => ?_) (fun i hi => ?_)
  · simp at h; have h : i = j := by omega
    rw [h]
  obtain ⟨r, hv, p16'⟩ := p16 (a := vrs l) (okVrs l) (T := T) (by omega) p10' hi
  have hR := pageF_len T (5 * i)
  have htk := take_page T (5 * i)
  have happ := app_of (P := Tryd.prog) (enc := encTag) (sz := 4) (bytes := 40) lenTag (by decide) (by decide) (T.take (5 * i)) (pageF T (5 * i)) hv (by rw [List.length_take]; omega)
  rw [htk] at happ
  have hgtr : (XOp.bin .gtr 3 false true).run Tryd.prog [.int .i64 ((pageF T (5 * i)).length : Int), .int .i64 5] = some (.bool false) := by rw [run_gtr, decide_eq_false (by omega)]
  have hlss : (XOp.bin .lss 3 false true).run Tryd.prog [.int .i64 (i : Int), .int .i64 20] = some (.bool true) := by rw [run_lss, decide_eq_true (by omega)]
  refine VOK_lt hlss rfl (VOK_iteT rfl (VOK_call p16' rfl (by simp only [okL, hv.ok okTag, okC]) (VOK_lt (neq_self ..) rfl (VOK_iteF rfl ?_))))
  refine VOK_lt (lenT hv) rfl (VOK_lt hgtr rfl (VOK_iteF rfl (VOK_lt happ (okTags _) (VOK_lt (run_eql ..) rfl (VOK_ite rfl (fun hn => ?_) (fun hn => ?_))))))
  · -- the last page
    have hn : nextF T (5 * i) = 0 := by simpa using hn
    have h5 : T.length ≤ 5 * i + 5 := by
      unfold nextF at hn
      split at hn
      · assumption
      · omega
    rw [List.take_of_length_le h5]
    have hnz : (XOp.bin .neq 3 false true).run Tryd.prog [.int .i64 (nextF T (5 * i)), .int .i64 0] = some (.bool false) := by rw [hn]; exact neq_self ..
    refine VOK_call p11' rfl (okC1 (okTags _)) (VOK_lt (len26 T) rfl (VOK_lt (len26 T) rfl (VOK_lt (neq_self ..) rfl (VOK_iteF rfl (VOK_lt hnz rfl (VOK_iteF rfl ?_))))))
    refine VOK_loop (ι := Nat) (fun j => [.int .i64 j, tags T, tags T]) (fun j => j ≤ T.length) (fun j => T.length - j) 0 (Nat.zero_le _) rfl
      (fun i _ => by simp only [okL, okC, okTags]) (fun i j _ _ h => ?_) (fun j hj => ?_)
    · simp at h; have h : i = j := by omega
      rw [h]
    refine VOK_lt (len26 T) rfl (VOK_lt (run_lss ..) rfl (VOK_ite rfl (fun hlt => ?_) (fun hlt => VOK_done rfl)))
    have hlt : j < T.length := by simp only [decide_eq_true_eq] at hlt; omega
    refine VOK_lt (iaT (SlV.of T) hlt) (encL_ok okTag _) (VOK_ltN (ld29 hlt) rfl rfl (VOK_lt (iaT (SlV.of T) hlt) (encL_ok okTag _) (VOK_ltN (ld29 hlt) rfl rfl (VOK_lt (run_neq_tag _) rfl (VOK_iteF rfl (VOK_lt (run_add ..) rfl (VOK_again rfl ⟨j + 1, hlt, ?_, by omega⟩)))))))
    rw [← wrapS hlt (by omega)]; rfl
  · -- the next page
    have hn : ¬ nextF T (5 * i) = 0 := by simpa using hn
    have h5 : ¬ T.length ≤ 5 * i + 5 := fun h => hn (by unfold nextF; rw [if_pos h])
    have hnx : nextF T (5 * i) = ((5 * (i + 1) : Nat) : Int) := by unfold nextF; rw [if_neg h5]; rfl
    refine VOK_lt (run_add ..) rfl (VOK_again rfl ⟨i + 1, by omega, ?_, by omega⟩)
    rw [← wrapS (show i < 20 by omega) (by omega), ← hnx]; rfl
end Go.Proofs.YtbceomdmpbmnkaaDoor.vars
