/-
  What functions take and leave that take rows.
-/
import Derived.Test.YtbceomdmpbmnkaaSyQ
import Derived.Test.YtbceomdmpbmnkaaFA
import Derived.Test.YtbceomdmpbmnkaaVCb
import Derived.KernelRfl
import Derived.Test.YtbceomdmpbmnkaaSyS
set_option linter.unusedVariables false
namespace Go.Proofs.Ytbceomdmpbmnkaa.vars
open Go Go.Sx
def ft35 : FT := ⟨0, ⟨[(0, .slx 0 0 0)], [], 0, 1, [], [], []⟩, [(false, ⟨[(0, .slx 0 3 0)], [], 1, 1, [⟨0, 3, 0, 0, none⟩], [], []⟩)]⟩
def ft8 : FT := ⟨0, ⟨[(0, .slx 0 0 0), (1, .slx 1 0 0), (2, .slx 2 0 0), (3, .slx 3 0 0), (4, .slx 4 0 0)], [], 0, 5, [], [], []⟩, [(false, ⟨[(0, .slx 0 0 0)], [], 0, 1, [], [], []⟩)]⟩
end Go.Proofs.Ytbceomdmpbmnkaa.vars
set_option maxRecDepth 100000
set_option linter.unusedVariables false
set_option linter.unusedSimpArgs false
namespace Go.Proofs.Ytbceomdmpbmnkaa.vars
open Go Go.Sx
def setR (m : List GVal) (s : Nat) (x : GVal) : Nat → List GVal
 | 0 => m
 | n + 1 => (setR m s x n).set (s + n) x
theorem setR_len (m : List GVal) (s : Nat) (x : GVal) : ∀ n, (setR m s x n).length = m.length
 | 0 => rfl
 | n + 1 => by simp only [setR, List.length_set, setR_len m s x n]
def safe1 (v : GVar) (s : Nat) (m : List GVal) : List GVal := if v.role = 2 then setR m s v.safe (firstOf v).length else m
def safeF : List GVar → Nat → List GVal → List GVal
 | [], _, m => m
 | v :: r, s, m => safeF r (s + (firstOf v).length) (safe1 v s m)
theorem safeF_snoc (v : GVar) : ∀ (l : List GVar) (s : Nat) (m : List GVal), safeF (l ++ [v]) s m = safe1 v (s + (firstF l).length) (safeF l s m)
 | [], s, m => rfl
 | a :: r, s, m => by
   simp only [List.cons_append, safeF, safeF_snoc v r, firstF, List.length_append]
   rw [Nat.add_assoc]
theorem safe1_len (v : GVar) (s : Nat) (m : List GVal) : (safe1 v s m).length = m.length := by
 unfold safe1; split
 ·exact setR_len _ _ _ _
 ·rfl
theorem safeF_len : ∀ (l : List GVar) (s : Nat) (m : List GVal), (safeF l s m).length = m.length
 | [], s, m => rfl
 | a :: r, s, m => by simp only [safeF, safeF_len r, safe1_len]
theorem run_app_v {α : Type} {enc : α → List AV} {sz bytes : Nat} (hw : ∀ a, (enc a).length = sz) (hb : 0 < bytes) (l l' : List α) (hl : (l.length + l'.length) * bytes ≤ 1073741824) : (XOp.app sz bytes).run Try.prog [vslOf enc sz l, sliceOf enc sz l'] = some (vslOf enc sz (l ++ l')) := by
 have hl1 : l.length + l'.length ≤ 1073741824 := Nat.le_trans (Nat.le_mul_of_pos_right _ hb) hl
 show (match appArg sz (sliceOf enc sz l') with | some (n, l') => appV sz bytes (vslOf enc sz l) n l' | none => none) = _
 have ha : appArg sz (sliceOf enc sz l') = some (l'.length, encL enc l') := by
  cases l' with
  | nil => rfl
  | cons a r =>
    show (match srcCells ⟨hnil, 0, 0⟩ (.vsl (r.length + 1) sz (encL enc (a :: r))) (r.length + 1) sz with | some l => some (r.length + 1, l) | none => none) = _
    have : srcCells ⟨hnil, 0, 0⟩ (.vsl (r.length + 1) sz (encL enc (a :: r))) (r.length + 1) sz = some (encL enc (a :: r)) := by
     show takeEx (Nat.mul (r.length + 1) sz) _ = _
     have h := takeEx_left (encL enc (a :: r)) []
     rw [List.append_nil, encL_length hw] at h
     exact h
    simp only [this, List.length_cons]
 simp only [ha]
 unfold appV vslOf
 simp only [encL_length hw, and_self, decide_true]
 cases l' with
 | nil => simp
 | cons a r =>
   have e1 : (Nat.ble (Nat.mul (Nat.add l.length (a :: r).length) bytes) 1073741824 && Nat.ble (Nat.add l.length (a :: r).length) 1073741824 && Nat.blt 0 bytes) = true := by
    have h1 : Nat.ble (Nat.mul (Nat.add l.length (a :: r).length) bytes) 1073741824 = true := Nat.ble_eq_true_of_le hl
    have h2 : Nat.ble (Nat.add l.length (a :: r).length) 1073741824 = true := Nat.ble_eq_true_of_le hl1
    have h3 : Nat.blt 0 bytes = true := by simpa [Nat.blt_eq] using hb
    rw [h1, h2, h3]; rfl
   simp only [List.length_cons] at e1 ⊢
   simp only [e1, encL_append, List.length_append, List.length_cons]
   rfl
theorem vsl_ne {α : Type} {enc : α → List AV} {w : Nat} {l : List α} (h : l ≠ []) : vslOf enc w l = sliceOf enc w l := by
 cases l with
 | nil => exact absurd rfl h
 | cons a r => rfl
theorem okVsl (l : List GVal) : okC (vslOf encVal 3 l) = true := encL_ok okVal l
theorem stx25 (l : List GVal) {i : Nat} (hi : i < l.length) (x : GVal) : (XOp.stx 25 3 0).run Try.prog [vals l, .int .i64 (i : Int), .agg (encVal x)] = some (vals (l.set i x)) :=
 run_stx (ti := (Try.prog.info? 25).get!) lenVal hi (p := []) (q := encVal l[i]) (r := []) (xs := encVal x) rfl (.inl rfl) (by kernel_rfl) (by kernel_rfl) rfl (by simp) rfl rfl (by simp) .i64
theorem add_c {x y : Int} {t : TypeId} {cx cy : Bool} (h1 : -9223372036854775807 ≤ x + y) (h2 : x + y ≤ 9223372036854775807) : (XOp.bin .add t cx cy).run Try.prog [.int .i64 x, .int .i64 y] = some (.int .i64 (x + y)) := by
 rw [run_add, wrap64 (by omega) (by omega)]
theorem same_ok {α : Type} {enc : α → List AV} {w : Nat} {Y : Sy} {i j : Nat} {l l' : List α} (h1 : Y.v i = some (sliceOf enc w l)) (h2 : Y.v j = some (sliceOf enc w l')) (h : l.length = l'.length) : (Chk.same i j).ok Y := by
 cases l with
 | nil =>
   cases l' with
   | nil => exact .inl ⟨h1, h2⟩
   | cons a r => simp at h
 | cons a r =>
   cases l' with
   | nil => simp at h
   | cons b q =>
     have e : r.length = q.length := by simpa using h
     exact .inr ⟨r.length + 1, w, _, _, h1, by rw [h2]; show some (AV.vsl (q.length + 1) w _) = _; rw [e]⟩
theorem callF' {P : Program} {Q : AV → Prop} {L : List (Nat → List AV → Prop)} {Y : Sy} {f : FuncId} {ft : FT} {hv vs : List AV} {n : Nat} {bs : VTs} {R : Nat → List AV → Prop} (h1 : CF P f ft vs R) (h0 : denL Y.v hv = vs) (h2 : okL vs = true) (h3 : VOKb P Q R L (Y.puts n vs) (Nat.add n ft.ent.nv) 0 bs) : VOK P Q L Y (.callF f ft hv n bs) := by
 subst h0; exact VOK_callF h1 h2 h3
def c35 : VC := ⟨⟨[], []⟩, [], [], 0, true, []⟩
def t35 : VT :=
 (.lt (.bin .eql 33 false true) [64, .nsl] 65 none
 (.ite 65
 (.done (.tup [J 0, .nsl]))
 (.lt (.app 3 24) [.vsl 0 3 [], 64] 66 none
 (.done (.tup [J 0, 66])))))
theorem p35 (m : List GVal) (hm : m.length ≤ 1000) : CF Try.prog 35 ft35 [vals m] (fun _ ws => ws = [vals m]) := by
 refine cf_tree (c := c35) (n := 300) (t := t35) mo ov rfl (fun Y _ => known0 _) (by kernel_rfl) fun Y hf hg => ?_
 unfold t35
 cases m with
 | nil => exact VOK_lt (r := .bool true) (by kernel_rfl) rfl (VOK_iteT rfl (VOK_fin rfl rfl))
 | cons a r =>
   have he : (XOp.bin .eql 33 false true).run Try.prog [vals (a :: r), .nsl] = some (.bool false) := by kernel_rfl
   have ha := run_app_v (enc := encVal) (bytes := 24) lenVal (by decide) [] (a :: r) (by simp only [List.length_nil, List.length_cons] at hm ⊢; omega)
   refine VOK_lt he rfl (VOK_iteF rfl (VOK_lt ha (okVsl _) (VOK_fin (okC1 (okVsl _)) ?_)))
   rfl
def c16 : VC := ⟨⟨[], []⟩, [(9, [none, none]), (12, [none]), (27, [none])], [(0, [⟨[(29, .slx 0 0 0), (5, 66), (7, .slx 0 3 1), (27, 64), (28, 74)], [], 1, 2, [⟨0, 3, 1, 7, none⟩], [], []⟩]), (2, [⟨[(39, .slx 0 0 0), (9, .ptr 1 0), (8, 75), (5, 66), (7, .slx 2 3 1), (29, 75), (27, 64), (28, 74), (38, .slx 2 0 0)], [(1, [.slx 3 0 0, .slx 4 0 0, .slx 5 0 0, .slx 6 0 0, .slx 7 0 0, .slx 8 0 0, .slx 9 0 0, .slx 10 0 0, .slx 11 0 0, .slx 12 0 0])], 3, 13, [⟨2, 3, 1, 7, none⟩], [], []⟩])], 0, true, [(35, ft35)]⟩
def t16 : VT :=
 (.call 9 [64] 66 [none, none]
 (.call 12 [64] 68 [none]
 (.lt (.bin .neq 35 false true) [68, J 0] 69 none
 (.ite 69
 (.done (.nsl))
 (.lt (.len 33) [65] 70 none
 (.lt (.bin .neq 3 false false) [70, 67] 71 none
 (.ite 71
 (.done (.nsl))
 (.callF 35 ft35 [65] 72
 (.cons 1
 (.lt (.len 22) [64] 74 none
 (.loop 75 0 [J 0, 73]
 (.cons 2
 (.lt (.bin .lss 3 false false) [75, 74] 77 none
 (.ite 77
 (.lt (.iaddr 22) [64, 75] 78 none
 (.lt (.load 50) [78] 79 (some 10)
 (.lt (.bin .neq 3 false true) [80, J 2] 89 none
 (.ite 89
 (.lt (.bin .add 3 false true) [75, J 1] 90 none
 (.again 0 0 [90, 76]))
 (.call 27 [.agg [79, 80, 81, 82, 83, 84, 85, 86, 87, 88]] 90 [none]
 (.loop 91 0 [J 0, 76, 90, 79, 80, 81, 82, 83, 84, 85, 86, 87, 88]
 (.cons 13
 (.lt (.bin .lss 3 false false) [91, 93] 104 none
 (.ite 104
 (.lt (.iaddr 30) [66, 75] 105 none
 (.lt (.load 3) [105] 106 none
 (.lt (.bin .add 3 false false) [106, 91] 107 none
 (.lt .inb [92, 107] 108 none
 (.lt (.stx 25 3 0) [92, 108, .agg [101, 102, 103]] 109 none
 (.lt (.bin .add 3 false true) [91, J 1] 110 none
 (.chk (.same 92 109)
 (.again 1 0 [110, 109, 93, 94, 95, 96, 97, 98, 99, 100, 101, 102, 103]))))))))
 (.lt (.bin .add 3 false true) [75, J 1] 105 none
 (.again 0 0 [105, 92]))))
 .nil)))))))
 (.done (76))))
 .nil)))
 .nil)))))))))
def c17 : VC := ⟨⟨[], []⟩, [(10, [none, none]), (28, [none])], [(0, [⟨[(7, .slx 0 3 0), (5, 66), (0, 64), (8, .slx 1 0 0)], [], 1, 2, [⟨0, 3, 0, 7, none⟩], [], []⟩]), (2, [⟨[(9, .slx 0 0 0), (8, .slx 1 0 0), (0, 64), (5, 66), (7, .slx 0 3 2)], [], 1, 3, [⟨0, 3, 2, 7, none⟩], [], []⟩])], 0, true, []⟩
def t17 : VT :=
 (.call 10 [64] 66 [none, none]
 (.lt (.len 33) [65] 68 none
 (.lt (.bin .neq 3 false false) [68, 67] 69 none
 (.ite 69
 (.done (.nsl))
 (.lt (.app 3 24) [.vsl 0 3 [], 65] 70 none
 (.loop 71 0 [70, J 0]
 (.cons 2
 (.lt (.len 30) [66] 73 none
 (.lt (.bin .lss 3 false false) [72, 73] 74 none
 (.ite 74
 (.loop 75 0 [J 0, 72, 71]
 (.cons 3
 (.lt (.iaddr 22) [64, 76] 78 none
 (.lt (.load 50) [78] 79 (some 10)
 (.call 28 [.agg [79, 80, 81, 82, 83, 84, 85, 86, 87, 88]] 89 [none]
 (.lt (.bin .lss 3 false false) [75, 89] 90 none
 (.ite 90
 (.lt (.iaddr 22) [64, 76] 91 none
 (.lt (.faddr 50 1) [91] 92 none
 (.lt (.load 3) [92] 93 none
 (.lt (.bin .eql 3 false true) [93, J 2] 94 none
 (.ite 94
 (.lt (.iaddr 30) [66, 76] 95 none
 (.lt (.load 3) [95] 96 none
 (.lt (.bin .add 3 false false) [96, 75] 97 none
 (.lt (.iaddr 22) [64, 76] 98 none
 (.lt (.faddr 50 5) [98] 99 none
 (.lt (.load 25) [99] 100 (some 3)
 (.lt .inb [77, 97] 103 none
 (.lt (.stx 25 3 0) [77, 103, .agg [100, 101, 102]] 104 none
 (.lt (.bin .add 3 false true) [75, J 1] 105 none
 (.chk (.same 77 104)
 (.again 1 0 [105, 76, 104])))))))))))
 (.lt (.bin .add 3 false true) [76, J 1] 95 none
 (.again 0 0 [77, 95])))))))
 (.lt (.bin .add 3 false true) [76, J 1] 91 none
 (.again 0 0 [77, 91])))))))
 .nil))
 (.done (71)))))
 .nil)))))))
theorem fa50_1 (v : GVar) (r : List AV) : (XOp.faddr 50 1).run Try.prog [.vptr (encVar v ++ r)] = some (.vptr (.int .i64 v.role :: ([.int .i64 v.kind, .int .i64 v.size, .int .i64 v.first.kind, .int .i64 v.first.i, .flt .f64 v.first.f, .int .i64 v.safe.kind, .int .i64 v.safe.i, .flt .f64 v.safe.f] ++ r))) := by kernel_rfl
theorem fa50_5 (v : GVar) (r : List AV) : (XOp.faddr 50 5).run Try.prog [.vptr (encVar v ++ r)] = some (.vptr (encVal v.safe ++ r)) := by kernel_rfl
theorem addr_i {l : List GVar} (h : Own l) {i : Nat} (hi : i < l.length) : (addrsF l 0)[i]'(by rw [addrsF_len]; exact hi) = ((firstF (l.take i)).length : Int) := by
 rw [addrs_at, h.sumT]
theorem ends_le {l : List GVar} (h : Own l) {i : Nat} (hi : i < l.length) : (firstF (l.take i)).length + (firstOf l[i]).length ≤ (firstF l).length := by
 have : firstF l = firstF (l.take i) ++ (firstOf l[i] ++ firstF (l.drop (i + 1))) := by
  have e : l = l.take i ++ l[i] :: l.drop (i + 1) := by rw [List.getElem_cons_drop, List.take_append_drop]
  have fa : ∀ a b : List GVar, firstF (a ++ b) = firstF a ++ firstF b := by
   intro a b
   induction a with
   | nil => rfl
   | cons x a ih => simp only [List.cons_append, firstF, ih, List.append_assoc]
  have := congrArg firstF e
  rw [fa] at this
  exact this
 rw [this]; simp only [List.length_append]; omega
theorem p16n (l : List GVar) (hl : l.length ≤ 1000) (hz : ∀ v ∈ l, Plain v) (hm : ¬ mayE l = 0) (m : List GVal) : Pure Try.prog 16 [vrs l, vals m] .nsl := by
 have h9 := p9 l hl hz
 rw [if_neg hm] at h9
 refine pure_shape (sh := [none, none]) (ls := [vrs l, vals m]) (c := c16) (n := 300) (t := t16) mo ov rfl (by simp only [okL, okVrs, okVals]) rfl (fun Y _ => known0 _) rfl (by kernel_rfl) fun Y hf hg => ?_
 unfold t16
 have hne : (XOp.bin .neq 35 false true).run Try.prog [.int .i64 (mayE l), .int .i64 0] = some (.bool true) := by rw [run_neq, decide_eq_false hm]; rfl
 exact VOK_call h9 rfl rfl (VOK_call (p12 l hl hz) rfl rfl (VOK_lt hne rfl (VOK_iteT rfl (VOK_done rfl))))
theorem p16 (l : List GVar) (h : Own l) (m : List GVal) (hm : m.length ≤ 1000) : Pure Try.prog 16 [vrs l, vals m] (if m.length = (firstF l).length then vals (safeF l 0 m) else .nsl) := by
 have h12 := h.le
 have hall := h.all
 have h9 := p9 l (by omega) h.plain
 have hp12 := p12 l (by omega) h.plain
 rw [if_pos h.may] at h9
 rw [h.may] at hp12
 refine pure_shape (sh := [none, none]) (ls := [vrs l, vals m]) (c := c16) (n := 300) (t := t16) mo ov rfl (by simp only [okL, okVrs, okVals]) (by split <;> simp [noRef, okC_noRef (okVals _)]) (fun Y _ => known0 _) rfl (by kernel_rfl) fun Y hf hg => ?_
 unfold t16
 refine VOK_call h9 rfl (by simp only [okL, okC, okInts]) (VOK_call hp12 rfl rfl (VOK_lt (run_neq ..) rfl (VOK_ite rfl (fun h => by cases h) (fun _ => ?_))))
 refine VOK_lt (len33 m) rfl (VOK_lt (run_neq ..) rfl (VOK_ite rfl (fun hne => VOK_done ?_) (fun hne => ?_)))
 ·rw [h.sum] at hne
  have hne : ¬ m.length = (firstF l).length := fun e => by rw [e] at hne; simp at hne
  rw [if_neg hne]; rfl
 have hme : m.length = (firstF l).length := by
  rw [h.sum] at hne
  simp at hne; omega
 rw [if_pos hme]
 refine callF' (p35 m hm) rfl (okC1 (okVals _)) ⟨?_, trivial⟩
 rintro ws rfl
 refine VOK_lt (len22 l) rfl ?_
 refine VOK_loop (ι := Nat) (fun i => [.int .i64 (i : Int), vals (safeF (l.take i) 0 m)]) (fun i => i ≤ l.length) (fun i => l.length - i) 0 (Nat.zero_le _) rfl
  (fun i _ => by simp only [okL, okC, okVals]) (fun i j _ _ h => ?_) (fun i hi => ?_)
 ·have h := (AV.int.inj (List.cons.inj h).1).2; omega
 refine VOK_lt (run_lss ..) rfl (VOK_ite rfl (fun hlt => ?_) (fun hlt => VOK_done ?_))
 ·have hlt : i < l.length := by simp only [decide_eq_true_eq] at hlt; omega
  have hmv : mayVar l[i] = true := by rw [List.all_eq_true] at hall; exact hall _ (List.getElem_mem hlt)
  have he := ends_le h hlt
  have hsl := safeF_len (l.take i) 0 m
  have hsn : safeF (l.take (i + 1)) 0 m = safe1 l[i] (firstF (l.take i)).length (safeF (l.take i) 0 m) := by rw [List.take_succ_eq_append_getElem hlt, safeF_snoc, Nat.zero_add]
  refine VOK_lt (ia22 hlt) (encL_ok okVar _) (VOK_ltN (ld50 hlt) rfl rfl (VOK_lt (run_neq ..) rfl (VOK_ite rfl (fun hr => ?_) (fun hr => ?_))))
  ·have hr : ¬ l[i].role = 2 := by simpa using hr
   refine VOK_lt (add_c (by omega) (by omega)) rfl (VOK_again rfl ⟨i + 1, hlt, ?_, by omega⟩)
   rw [hsn]; unfold safe1; rw [if_neg hr]; rfl
  ·have hr : l[i].role = 2 := by simpa using hr
   refine VOK_call (p27 l[i]) rfl rfl ?_
   rw [wid_first hmv]
   refine VOK_loop (ι := Nat) (fun j => .int .i64 (j : Int) :: vals (setR (safeF (l.take i) 0 m) (firstF (l.take i)).length l[i].safe j) :: .int .i64 ((firstOf l[i]).length : Int) :: encVar l[i]) (fun j => j ≤ (firstOf l[i]).length) (fun j => (firstOf l[i]).length - j) 0 (Nat.zero_le _) rfl
    (fun j _ => by simp only [okL, okC, okVals]; rfl) (fun i j _ _ h => ?_) (fun j hj => ?_)
   ·have h := (AV.int.inj (List.cons.inj h).1).2; omega
   refine VOK_lt (run_lss ..) rfl (VOK_ite rfl (fun hjl => ?_) (fun hjl => ?_))
   ·have hjl : j < (firstOf l[i]).length := by simp only [decide_eq_true_eq] at hjl; omega
    have hai : i < (addrsF l 0).length := by rw [addrsF_len]; exact hlt
    have hin : (firstF (l.take i)).length + j < (setR (safeF (l.take i) 0 m) (firstF (l.take i)).length l[i].safe j).length := by rw [setR_len, hsl]; omega
    refine VOK_lt (ia30 hai) (encL_ok okI1 _) (VOK_lt (ld3i hai) rfl ?_)
    rw [addr_i h hlt]
    refine VOK_lt (r := .int .i64 (((firstF (l.take i)).length + j : Nat) : Int)) (add_c (by omega) (by omega)) rfl (VOK_lt (run_inb hin .i64) rfl (VOK_lt (stx25 _ hin l[i].safe) (okVals _) (VOK_lt (add_c (by omega) (by omega)) rfl (VOK_chk (same_ok rfl rfl (by rw [List.length_set])) (VOK_again rfl ⟨j + 1, hjl, rfl, by omega⟩)))))
   ·have hj : j = (firstOf l[i]).length := by simp only [decide_eq_false_iff_not] at hjl; omega
    subst hj
    refine VOK_lt (add_c (by omega) (by omega)) rfl (VOK_again rfl ⟨i + 1, hlt, ?_, by omega⟩)
    rw [hsn]; unfold safe1; rw [if_pos hr]; rfl
 ·have he : i = l.length := by simp only [decide_eq_false_iff_not] at hlt; omega
  subst he
  show vals (safeF (l.take l.length) 0 m) = _
  rw [List.take_length]
theorem p17n (l : List GVar) (hl : l.length ≤ 1000) (hz : ∀ v ∈ l, Plain v) (hm : ¬ mayE l = 0) : Pure Try.prog 17 [vrs l, .nsl] (.vsl 0 3 []) := by
 refine pure_shape (sh := [none, none]) (ls := [vrs l, .nsl]) (c := c17) (n := 300) (t := t17) mo ov rfl (by simp only [okL, okVrs]; rfl) rfl (fun Y _ => known0 _) rfl (by kernel_rfl) fun Y hf hg => ?_
 unfold t17
 refine VOK_call (p10n l hl hz hm) rfl rfl (VOK_lt (len33 []) rfl (VOK_lt (run_neq ..) rfl (VOK_iteF rfl (VOK_lt (r := .vsl 0 3 []) (by kernel_rfl) rfl ?_))))
 refine VOK_loop (ι := Unit) (fun _ => [.vsl 0 3 [], .int .i64 0]) (fun _ => True) (fun _ => 0) () trivial rfl (fun _ _ => rfl) (fun _ _ _ _ _ => rfl) (fun _ _ => ?_)
 exact VOK_lt (r := .int .i64 0) (by kernel_rfl) rfl (VOK_lt (run_lss ..) rfl (VOK_iteF rfl (VOK_done rfl)))
theorem p17 (l : List GVar) (h : Own l) (m : List GVal) (hme : m.length = (firstF l).length) (hm : m.length ≤ 1000) : Pure Try.prog 17 [vrs l, vals m] (vslOf encVal 3 (safeF l 0 m)) := by
 have h12 := h.le
 have hall := h.all
 refine pure_shape (sh := [none, none]) (ls := [vrs l, vals m]) (c := c17) (n := 300) (t := t17) mo ov rfl (by simp only [okL, okVrs, okVals]) (okC_noRef (okVsl _)) (fun Y _ => known0 _) rfl (by kernel_rfl) fun Y hf hg => ?_
 unfold t17
 refine VOK_call (p10 l h) rfl (by simp only [okL, okC, okInts]) (VOK_lt (len33 m) rfl (VOK_lt (run_neq ..) rfl (VOK_ite rfl (fun hne => ?_) (fun hne => ?_))))
 ·exfalso
  rw [h.sum, hme] at hne
  simp at hne
 refine VOK_lt (run_app_v (enc := encVal) (bytes := 24) lenVal (by decide) [] m (by simp only [List.length_nil]; omega)) (okVsl _) ?_
 rw [List.nil_append]
 refine VOK_loop (ι := Nat) (fun i => [vslOf encVal 3 (safeF (l.take i) 0 m), .int .i64 (i : Int)]) (fun i => i ≤ l.length) (fun i => l.length - i) 0 (Nat.zero_le _) rfl
  (fun i _ => by simp only [okL, okC, okVsl]) (fun i j _ _ h => ?_) (fun i hi => ?_)
 ·have h := (AV.int.inj (List.cons.inj (List.cons.inj h).2).1).2; omega
 refine VOK_lt (len30 _) rfl ?_
 rw [addrsF_len]
 refine VOK_lt (run_lss ..) rfl (VOK_ite rfl (fun hlt => ?_) (fun hlt => VOK_done ?_))
 ·have hlt : i < l.length := by simp only [decide_eq_true_eq] at hlt; omega
  have hmv : mayVar l[i] = true := by rw [List.all_eq_true] at hall; exact hall _ (List.getElem_mem hlt)
  have he := ends_le h hlt
  have hsl := safeF_len (l.take i) 0 m
  have hsn : safeF (l.take (i + 1)) 0 m = safe1 l[i] (firstF (l.take i)).length (safeF (l.take i) 0 m) := by rw [List.take_succ_eq_append_getElem hlt, safeF_snoc, Nat.zero_add]
  refine VOK_loop (ι := Nat) (fun j => [.int .i64 (j : Int), .int .i64 (i : Int), vslOf encVal 3 (setR (safeF (l.take i) 0 m) (firstF (l.take i)).length l[i].safe j)]) (fun j => j ≤ (firstOf l[i]).length ∧ (¬ l[i].role = 2 → j = 0)) (fun j => (firstOf l[i]).length - j) 0 ⟨Nat.zero_le _, fun _ => rfl⟩ rfl
   (fun j _ => by simp only [okL, okC, okVsl]) (fun i j _ _ h => ?_) (fun j hj => ?_)
  ·have h := (AV.int.inj (List.cons.inj h).1).2; omega
  obtain ⟨hj, hj0⟩ := hj
  refine VOK_lt (ia22 hlt) (encL_ok okVar _) (VOK_ltN (ld50 hlt) rfl rfl (VOK_call (p28 l[i] hmv) rfl rfl ?_))
  rw [wid_first hmv]
  refine VOK_lt (run_lss ..) rfl (VOK_ite rfl (fun hjl => ?_) (fun hjl => ?_))
  ·have hjl : j < (firstOf l[i]).length := by simp only [decide_eq_true_eq] at hjl; omega
   have hin : (firstF (l.take i)).length + j < (setR (safeF (l.take i) 0 m) (firstF (l.take i)).length l[i].safe j).length := by rw [setR_len, hsl]; omega
   refine VOK_lt (ia22' hlt) (okRow okVar l[i] (l.drop (i + 1))) (VOK_lt (fa50_1 ..) (okTail okVar _ _ rfl) (VOK_lt (ld3 ..) rfl (VOK_lt (run_eql ..) rfl (VOK_ite rfl (fun hr => ?_) (fun hr => ?_)))))
   ·have hai : i < (addrsF l 0).length := by rw [addrsF_len]; exact hlt
    refine VOK_lt (ia30 hai) (encL_ok okI1 _) (VOK_lt (ld3i hai) rfl ?_)
    rw [addr_i h hlt]
    have hne : setR (safeF (l.take i) 0 m) (firstF (l.take i)).length l[i].safe j ≠ [] := fun e => by rw [e] at hin; simp at hin
    have hne2 : setR (safeF (l.take i) 0 m) (firstF (l.take i)).length l[i].safe (j + 1) ≠ [] := fun e => by
     have e := congrArg List.length e
     rw [setR_len] at e hin
     rw [e] at hin
     simp at hin
    rw [vsl_ne hne]
    refine VOK_lt (r := .int .i64 (((firstF (l.take i)).length + j : Nat) : Int)) (add_c (by omega) (by omega)) rfl (VOK_lt (ia22' hlt) (okRow okVar l[i] (l.drop (i + 1))) (VOK_lt (fa50_5 ..) (okTail okVar _ _ rfl) (VOK_ltN (ld25 ..) rfl rfl (VOK_lt (run_inb hin .i64) rfl (VOK_lt (stx25 _ hin l[i].safe) (okVals _) (VOK_lt (add_c (by omega) (by omega)) rfl (VOK_chk (same_ok rfl rfl (by rw [List.length_set])) (VOK_again rfl ⟨j + 1, ⟨hjl, fun h => absurd (by simpa using hr) h⟩, ?_, by omega⟩))))))))
    show _ = [AV.int .i64 ((j + 1 : Nat) : Int), AV.int .i64 (i : Int), vslOf encVal 3 (setR (safeF (l.take i) 0 m) (firstF (l.take i)).length l[i].safe (j + 1))]
    rw [vsl_ne hne2]
    rfl
   ·have hr : ¬ l[i].role = 2 := by simpa using hr
    have hj := hj0 hr
    subst hj
    refine VOK_lt (add_c (by omega) (by omega)) rfl (VOK_again rfl ⟨i + 1, hlt, ?_, by omega⟩)
    rw [hsn]; unfold safe1; rw [if_neg hr]; rfl
  ·have hj' : j = (firstOf l[i]).length := by simp only [decide_eq_false_iff_not] at hjl; omega
   refine VOK_lt (add_c (by omega) (by omega)) rfl (VOK_again rfl ⟨i + 1, hlt, ?_, by omega⟩)
   rw [hsn]; unfold safe1
   split
   ·rw [← hj']; rfl
   ·rename_i hr
    have := hj0 hr
    subst this; rfl
 ·have he : i = l.length := by simp only [decide_eq_false_iff_not] at hlt; omega
  subst he
  show vslOf encVal 3 (safeF (l.take l.length) 0 m) = _
  rw [List.take_length]
end Go.Proofs.Ytbceomdmpbmnkaa.vars
set_option maxRecDepth 100000
set_option linter.unusedVariables false
set_option linter.unusedSimpArgs false
namespace Go.Proofs.Ytbceomdmpbmnkaa.vars
open Go Go.Sx
theorem stxN (l : List GVar) {i : Nat} (hi : i < l.length) (s : List UInt8) : (XOp.stx 9 10 0).run Try.prog [vrs l, .int .i64 (i : Int), .str s] = some (vrs (l.set i { l[i] with name := s })) :=
 run_stx (ti := (Try.prog.info? 9).get!) lenVar hi (p := []) (q := [.str l[i].name]) (r := [.int .i64 l[i].role, .int .i64 l[i].kind, .int .i64 l[i].size, .int .i64 l[i].first.kind, .int .i64 l[i].first.i, .flt .f64 l[i].first.f, .int .i64 l[i].safe.kind, .int .i64 l[i].safe.i, .flt .f64 l[i].safe.f]) (xs := [.str s]) rfl (.inr (.inr ⟨_, rfl⟩)) (by kernel_rfl) (by kernel_rfl) rfl rfl rfl rfl rfl .i64
theorem stxR (l : List GVar) {i : Nat} (hi : i < l.length) (n : Int) : (XOp.stx 3 10 1).run Try.prog [vrs l, .int .i64 (i : Int), .int .i64 n] = some (vrs (l.set i { l[i] with role := n })) :=
 run_stx (ti := (Try.prog.info? 3).get!) lenVar hi (p := [.str l[i].name]) (q := [.int .i64 l[i].role]) (r := [.int .i64 l[i].kind, .int .i64 l[i].size, .int .i64 l[i].first.kind, .int .i64 l[i].first.i, .flt .f64 l[i].first.f, .int .i64 l[i].safe.kind, .int .i64 l[i].safe.i, .flt .f64 l[i].safe.f]) (xs := [.int .i64 n]) rfl (.inr (.inl ⟨_, _, rfl⟩)) (by kernel_rfl) (by kernel_rfl) rfl rfl rfl rfl rfl .i64
theorem stxK (l : List GVar) {i : Nat} (hi : i < l.length) (n : Int) : (XOp.stx 3 10 2).run Try.prog [vrs l, .int .i64 (i : Int), .int .i64 n] = some (vrs (l.set i { l[i] with kind := n })) :=
 run_stx (ti := (Try.prog.info? 3).get!) lenVar hi (p := [.str l[i].name, .int .i64 l[i].role]) (q := [.int .i64 l[i].kind]) (r := [.int .i64 l[i].size, .int .i64 l[i].first.kind, .int .i64 l[i].first.i, .flt .f64 l[i].first.f, .int .i64 l[i].safe.kind, .int .i64 l[i].safe.i, .flt .f64 l[i].safe.f]) (xs := [.int .i64 n]) rfl (.inr (.inl ⟨_, _, rfl⟩)) (by kernel_rfl) (by kernel_rfl) rfl rfl rfl rfl rfl .i64
theorem stxS (l : List GVar) {i : Nat} (hi : i < l.length) (n : Int) : (XOp.stx 3 10 3).run Try.prog [vrs l, .int .i64 (i : Int), .int .i64 n] = some (vrs (l.set i { l[i] with size := n })) :=
 run_stx (ti := (Try.prog.info? 3).get!) lenVar hi (p := [.str l[i].name, .int .i64 l[i].role, .int .i64 l[i].kind]) (q := [.int .i64 l[i].size]) (r := [.int .i64 l[i].first.kind, .int .i64 l[i].first.i, .flt .f64 l[i].first.f, .int .i64 l[i].safe.kind, .int .i64 l[i].safe.i, .flt .f64 l[i].safe.f]) (xs := [.int .i64 n]) rfl (.inr (.inl ⟨_, _, rfl⟩)) (by kernel_rfl) (by kernel_rfl) rfl rfl rfl rfl rfl .i64
theorem stxFk (l : List GVar) {i : Nat} (hi : i < l.length) (n : Int) : (XOp.stx 3 10 4).run Try.prog [vrs l, .int .i64 (i : Int), .int .i64 n] = some (vrs (l.set i { l[i] with first := { l[i].first with kind := n } })) :=
 run_stx (ti := (Try.prog.info? 3).get!) lenVar hi (p := [.str l[i].name, .int .i64 l[i].role, .int .i64 l[i].kind, .int .i64 l[i].size]) (q := [.int .i64 l[i].first.kind]) (r := [.int .i64 l[i].first.i, .flt .f64 l[i].first.f, .int .i64 l[i].safe.kind, .int .i64 l[i].safe.i, .flt .f64 l[i].safe.f]) (xs := [.int .i64 n]) rfl (.inr (.inl ⟨_, _, rfl⟩)) (by kernel_rfl) (by kernel_rfl) rfl rfl rfl rfl rfl .i64
theorem stxFi (l : List GVar) {i : Nat} (hi : i < l.length) (n : Int) : (XOp.stx 2 10 5).run Try.prog [vrs l, .int .i64 (i : Int), .int .i64 n] = some (vrs (l.set i { l[i] with first := { l[i].first with i := n } })) :=
 run_stx (ti := (Try.prog.info? 2).get!) lenVar hi (p := [.str l[i].name, .int .i64 l[i].role, .int .i64 l[i].kind, .int .i64 l[i].size, .int .i64 l[i].first.kind]) (q := [.int .i64 l[i].first.i]) (r := [.flt .f64 l[i].first.f, .int .i64 l[i].safe.kind, .int .i64 l[i].safe.i, .flt .f64 l[i].safe.f]) (xs := [.int .i64 n]) rfl (.inr (.inl ⟨_, _, rfl⟩)) (by kernel_rfl) (by kernel_rfl) rfl rfl rfl rfl rfl .i64
theorem stxSf (l : List GVar) {i : Nat} (hi : i < l.length) (x : GVal) : (XOp.stx 25 10 7).run Try.prog [vrs l, .int .i64 (i : Int), .agg (encVal x)] = some (vrs (l.set i { l[i] with safe := x })) :=
 run_stx (ti := (Try.prog.info? 25).get!) lenVar hi (p := [.str l[i].name, .int .i64 l[i].role, .int .i64 l[i].kind, .int .i64 l[i].size, .int .i64 l[i].first.kind, .int .i64 l[i].first.i, .flt .f64 l[i].first.f]) (q := [.int .i64 l[i].safe.kind, .int .i64 l[i].safe.i, .flt .f64 l[i].safe.f]) (r := []) (xs := encVal x) rfl (.inl rfl) (by kernel_rfl) (by kernel_rfl) rfl rfl rfl rfl rfl .i64
theorem set_plain {l : List GVar} (hz : ∀ v ∈ l, Plain v) {i : Nat} {x : GVar} (hx : Plain x) : ∀ v ∈ l.set i x, Plain v := fun v hv => by
 rcases List.mem_or_eq_of_mem_set hv with h | rfl
 ·exact hz v h
 ·exact hx
theorem run_tk (l : List GVar) {k : Nat} (hk : k < l.length) : XOp.tkx.run Try.prog [vrs l, vrs l, .int .i64 (k : Int)] = some (vslOf encVar 10 (l.take k)) := by
 obtain ⟨x, r, rfl⟩ : ∃ x r, l = x :: r := by cases l with | nil => simp at hk | cons x r => exact ⟨x, r, rfl⟩
 have hb : Nat.ble k (r.length + 1) = true := Nat.ble_eq_true_of_le (by simp only [List.length_cons] at hk; omega)
 have ht : takeEx (Nat.mul k 10) (encL encVar (x :: r)) = some (encL encVar ((x :: r).take k)) := by
  have e : encL encVar (x :: r) = encL encVar ((x :: r).take k) ++ encL encVar ((x :: r).drop k) := by rw [← encL_append, List.take_append_drop]
  have h := takeEx_left (encL encVar ((x :: r).take k)) (encL encVar ((x :: r).drop k))
  rw [← e, encL_length lenVar, List.length_take, Nat.min_eq_left (by omega)] at h
  exact h
 show (match Nat.beq 10 10 && (Nat.ble k (r.length + 1) && Nat.ble k (r.length + 1)) with
  | true => match takeEx (Nat.mul k 10) (encL encVar (x :: r)) with
    | some cs' => some (AV.vsl k 10 cs')
    | none => none
  | false => none) = _
 have h10 : Nat.beq 10 10 = true := rfl
 rw [hb, h10, ht]
 show some (AV.vsl k 10 _) = some (AV.vsl ((x :: r).take k).length 10 _)
 rw [List.length_take, Nat.min_eq_left (by omega)]
theorem ldxV (l : List GVar) {i : Nat} (hi : i < l.length) : (XOp.ldx 50 10 0).run Try.prog [vrs l, .int .i64 (i : Int)] = some (.agg (encVar l[i])) :=
 run_ldxN (ti := (Try.prog.info? 50).get!) Try.underlying50 rfl (by kernel_rfl) (by kernel_rfl) lenVar hi .i64
theorem app10_88 (l : List GVar) (v : GVar) (hl : l.length ≤ 100000) : (XOp.app 10 88).run Try.prog [vrs l, .agg (encVar v)] = some (vrs (l ++ [v])) := run_app_sl (enc := encVar) lenVar (by decide) (by decide) l v (by omega)
theorem cv5_3 (n : Nat) (h : n < 256) : (XOp.conv 5 3).run Try.prog [.int .u8 (n : Int)] = some (.int .i64 (n : Int)) := by
 rw [run_conv_ii Try.underlying5 Try.underlying3, wrap64 (by omega) (by omega)]
theorem run_rem (x m : Nat) (h : 0 < m) (h2 : m < 9223372036854775808) (t : TypeId) (cx cy : Bool) : (XOp.bin .rem t cx cy).run Try.prog [.int .i64 (x : Int), .int .i64 (m : Int)] = some (.int .i64 ((x % m : Nat) : Int)) := by
 have : (x : Int).tmod (m : Int) = ((x % m : Nat) : Int) := by
  rw [Int.tmod_eq_emod_of_nonneg (by omega)]; rfl
 show evBin Try.prog .rem t cx cy (.int .i64 (x : Int)) (.int .i64 (m : Int)) = _
 exact rem_run (by omega) this t cx cy
theorem run_rem9 (x : Int) (t : TypeId) (cx cy : Bool) : (XOp.bin .rem t cx cy).run Try.prog [.int .u8 x, .int .u8 9] = some (.int .u8 (x.tmod 9)) := by
 show evBin Try.prog .rem t cx cy (.int .u8 x) (.int .u8 9) = _
 exact rem_run (by decide) rfl t cx cy
def R8 : Nat → List AV → Prop := fun _ ws => ∃ (l : List GVar) (a : AV), ws = [a] ∧ SlV encVar 10 l a ∧ (∀ v ∈ l, Plain v) ∧ l.length ≤ 1000
def c8 : VC := ⟨⟨[], []⟩, [], [], 0, true, []⟩
def t8 : VT :=
 (.lt (.app 10 88) [.vsl 0 10 [], 64] 69 none
 (.lt (.conv 5 3) [66] 70 none
 (.lt (.len 22) [69] 71 none
 (.lt (.bin .rem 3 false false) [70, 71] 72 none
 (.lt (.bin .rem 5 false true) [65, .int .u8 9] 73 none
 (.lt (.bin .eql 5 false true) [73, .int .u8 0] 74 none
 (.ite 74
 (.lt .inb [69, 72] 75 none
 (.lt (.stx 9 10 0) [69, 75, 68] 76 none
 (.chk (.same 69 76)
 (.done (.tup [J 0, 76])))))
 (.lt (.bin .eql 5 false true) [73, .int .u8 1] 75 none
 (.ite 75
 (.lt .inb [69, 72] 76 none
 (.lt (.stx 3 10 1) [69, 76, 67] 77 none
 (.chk (.same 69 77)
 (.done (.tup [J 0, 77])))))
 (.lt (.bin .eql 5 false true) [73, .int .u8 2] 76 none
 (.ite 76
 (.lt .inb [69, 72] 77 none
 (.lt (.stx 3 10 2) [69, 77, 67] 78 none
 (.chk (.same 69 78)
 (.done (.tup [J 0, 78])))))
 (.lt (.bin .eql 5 false true) [73, .int .u8 3] 77 none
 (.ite 77
 (.lt .inb [69, 72] 78 none
 (.lt (.stx 3 10 3) [69, 78, 67] 79 none
 (.chk (.same 69 79)
 (.done (.tup [J 0, 79])))))
 (.lt (.bin .eql 5 false true) [73, .int .u8 4] 78 none
 (.ite 78
 (.lt .inb [69, 72] 79 none
 (.lt (.stx 2 10 5) [69, 79, 67] 80 none
 (.chk (.same 69 80)
 (.done (.tup [J 0, 80])))))
 (.lt (.bin .eql 5 false true) [73, .int .u8 5] 79 none
 (.ite 79
 (.lt .inb [69, 72] 80 none
 (.lt (.stx 25 10 7) [69, 80, .agg [67, J 1, .flt .f64 0]] 81 none
 (.chk (.same 69 81)
 (.done (.tup [J 0, 81])))))
 (.lt (.bin .eql 5 false true) [73, .int .u8 6] 80 none
 (.ite 80
 (.lt .inb [69, 72] 81 none
 (.lt (.ldx 50 10 0) [69, 81] 82 (some 10)
 (.lt (.app 10 88) [69, .agg [82, 83, 84, 85, 86, 87, 88, 89, 90, 91]] 92 none
 (.done (.tup [J 0, 92])))))
 (.lt (.bin .eql 5 false true) [73, .int .u8 7] 81 none
 (.ite 81
 (.lt .tkx [69, 69, 72] 82 none
 (.done (.tup [J 0, 82])))
 (.lt .inb [69, 72] 82 none
 (.lt (.stx 3 10 4) [69, 82, 67] 83 none
 (.chk (.same 69 83)
 (.done (.tup [J 0, 83]))))))))))))))))))))))))))
theorem p8 (l : List GVar) (hz : ∀ v ∈ l, Plain v) (h0 : 0 < l.length) (hl : l.length ≤ 900) (which : Int) (at' : Nat) (ha : at' < 256) (to : Int) (s : List UInt8) (hs : s.length < 9223372036854775808) : CF Try.prog 8 ft8 [vrs l, .int .u8 which, .int .u8 (at' : Int), .int .i64 to, .str s] R8 := by
 refine cf_tree (c := c8) (n := 300) (t := t8) mo ov rfl (fun Y _ => known0 _) (by kernel_rfl) fun Y hf hg => ?_
 unfold t8
 have hne : l ≠ [] := fun e => by rw [e] at h0; simp at h0
 have happ := run_app_v (enc := encVar) (bytes := 88) lenVar (by decide) [] l (by simp only [List.length_nil]; omega)
 rw [List.nil_append, vsl_ne hne] at happ
 have hk : at' % l.length < l.length := Nat.mod_lt _ h0
 refine VOK_lt happ (okVrs l) (VOK_lt (cv5_3 _ ha) rfl (VOK_lt (len22 l) rfl (VOK_lt (run_rem _ _ h0 (by omega) ..) rfl (VOK_lt (run_rem9 ..) rfl ?_))))
 have fin : ∀ (x : GVar), Plain x → R8 0 [vrs (l.set (at' % l.length) x)] := fun x hx => ⟨_, _, rfl, SlV.of _, set_plain hz hx, by rw [List.length_set]; omega⟩
 have hp := hz _ (List.getElem_mem hk)
 have sm : ∀ (x : GVar), l.length = (l.set (at' % l.length) x).length := fun x => by rw [List.length_set]
 refine VOK_lt (run_eql ..) rfl (VOK_ite rfl (fun _ => ?_) (fun _ => ?_))
 ·exact VOK_lt (run_inb hk .i64) rfl (VOK_lt (stxN l hk s) (okVrs _) (VOK_chk (same_ok rfl rfl (sm _)) (VOK_fin (okC1 (okVrs _)) (fin _ ⟨hp.1, hp.2.1, hs⟩))))
 refine VOK_lt (run_eql ..) rfl (VOK_ite rfl (fun _ => ?_) (fun _ => ?_))
 ·exact VOK_lt (run_inb hk .i64) rfl (VOK_lt (stxR l hk to) (okVrs _) (VOK_chk (same_ok rfl rfl (sm _)) (VOK_fin (okC1 (okVrs _)) (fin _ hp))))
 refine VOK_lt (run_eql ..) rfl (VOK_ite rfl (fun _ => ?_) (fun _ => ?_))
 ·exact VOK_lt (run_inb hk .i64) rfl (VOK_lt (stxK l hk to) (okVrs _) (VOK_chk (same_ok rfl rfl (sm _)) (VOK_fin (okC1 (okVrs _)) (fin _ hp))))
 refine VOK_lt (run_eql ..) rfl (VOK_ite rfl (fun _ => ?_) (fun _ => ?_))
 ·exact VOK_lt (run_inb hk .i64) rfl (VOK_lt (stxS l hk to) (okVrs _) (VOK_chk (same_ok rfl rfl (sm _)) (VOK_fin (okC1 (okVrs _)) (fin _ hp))))
 refine VOK_lt (run_eql ..) rfl (VOK_ite rfl (fun _ => ?_) (fun _ => ?_))
 ·exact VOK_lt (run_inb hk .i64) rfl (VOK_lt (stxFi l hk to) (okVrs _) (VOK_chk (same_ok rfl rfl (sm _)) (VOK_fin (okC1 (okVrs _)) (fin _ hp))))
 refine VOK_lt (run_eql ..) rfl (VOK_ite rfl (fun _ => ?_) (fun _ => ?_))
 ·exact VOK_lt (run_inb hk .i64) rfl (VOK_lt (stxSf l hk ⟨to, 1, 0⟩) (okVrs _) (VOK_chk (same_ok rfl rfl (sm _)) (VOK_fin (okC1 (okVrs _)) (fin _ ⟨hp.1, (show (0 : Nat) < 18446744073709551616 by decide), hp.2.2⟩))))
 refine VOK_lt (run_eql ..) rfl (VOK_ite rfl (fun _ => ?_) (fun _ => ?_))
 ·refine VOK_lt (run_inb hk .i64) rfl (VOK_ltN (ldxV l hk) rfl rfl (VOK_lt (app10_88 l l[at' % l.length] (by omega)) (okVrs _) (VOK_fin (okC1 (okVrs _)) ?_)))
  refine ⟨_, _, rfl, SlV.of _, fun v hv => ?_, by rw [List.length_append]; simp only [List.length_cons, List.length_nil]; omega⟩
  rcases List.mem_append.1 hv with hv | hv
  ·exact hz v hv
  ·cases List.mem_singleton.1 hv; exact hp
 refine VOK_lt (run_eql ..) rfl (VOK_ite rfl (fun _ => ?_) (fun _ => ?_))
 ·refine VOK_lt (run_tk l hk) (encL_ok okVar _) (VOK_fin (okC1 (encL_ok okVar _)) ?_)
  exact ⟨l.take (at' % l.length), _, rfl, .inl rfl, fun v hv => hz v (List.mem_of_mem_take hv), by rw [List.length_take]; omega⟩
 ·exact VOK_lt (run_inb hk .i64) rfl (VOK_lt (stxFk l hk to) (okVrs _) (VOK_chk (same_ok rfl rfl (sm _)) (VOK_fin (okC1 (okVrs _)) (fin _ hp))))
end Go.Proofs.Ytbceomdmpbmnkaa.vars
set_option maxRecDepth 100000
set_option linter.unusedVariables false
set_option linter.unusedSimpArgs false
namespace Go.Proofs.Ytbceomdmpbmnkaa.vars
open Go Go.Sx
theorem wf_f64 {n : Nat} (h : (Lit.float .f64 n).wf = true) : n < 18446744073709551616 := by simpa [Lit.wf] using h
theorem maxLen_lt {n : Nat} (h : n ≤ maxLen) : n < 9223372036854775808 := Nat.lt_of_le_of_lt h (by decide)
theorem fit_val {r : List AV} (h : Sx.Fit Try.prog 25 r) : ∃ v : GVal, r = encVal v ∧ v.f < 18446744073709551616 := by
 obtain ⟨parts, rfl, hl, hp⟩ := fit_struct_inv Try.underlying25 h
 have hl : parts.length = 3 := hl
 match parts, hl with
 | [p0, p1, p2], _ =>
   obtain ⟨k, rfl, _⟩ := fit_int_inv Try.underlying3 (show Sx.Fit Try.prog 3 p0 from hp 0 _ p0 rfl rfl)
   obtain ⟨i, rfl, _⟩ := fit_int_inv Try.underlying2 (show Sx.Fit Try.prog 2 p1 from hp 1 _ p1 rfl rfl)
   obtain ⟨f, rfl, hf⟩ := fit_flt_inv Try.underlying23 (show Sx.Fit Try.prog 23 p2 from hp 2 _ p2 rfl rfl)
   exact ⟨⟨k, i, f⟩, rfl, wf_f64 hf⟩
theorem fit_var {r : List AV} (h : Sx.Fit Try.prog 50 r) : ∃ v : GVar, r = encVar v ∧ Plain v := by
 obtain ⟨parts, rfl, hl, hp⟩ := fit_struct_inv Try.underlying50 h
 have hl : parts.length = 6 := hl
 match parts, hl with
 | [p0, p1, p2, p3, p4, p5], _ =>
   obtain ⟨s, rfl, hs⟩ := fit_str_inv Try.underlying9 (show Sx.Fit Try.prog 9 p0 from hp 0 _ p0 rfl rfl)
   obtain ⟨a, rfl, _⟩ := fit_int_inv Try.underlying3 (show Sx.Fit Try.prog 3 p1 from hp 1 _ p1 rfl rfl)
   obtain ⟨b, rfl, _⟩ := fit_int_inv Try.underlying3 (show Sx.Fit Try.prog 3 p2 from hp 2 _ p2 rfl rfl)
   obtain ⟨c, rfl, _⟩ := fit_int_inv Try.underlying3 (show Sx.Fit Try.prog 3 p3 from hp 3 _ p3 rfl rfl)
   obtain ⟨x, rfl, hx⟩ := fit_val (show Sx.Fit Try.prog 25 p4 from hp 4 _ p4 rfl rfl)
   obtain ⟨y, rfl, hy⟩ := fit_val (show Sx.Fit Try.prog 25 p5 from hp 5 _ p5 rfl rfl)
   exact ⟨⟨s, a, b, c, x, y⟩, rfl, hx, hy, maxLen_lt hs⟩
theorem rows_of {α : Type} {enc : α → List AV} {p : List AV → Prop} {q : α → Prop} (h : ∀ r, p r → ∃ a, r = enc a ∧ q a) : ∀ rows : List (List AV), (∀ r, r ∈ rows → p r) → ∃ l : List α, rows.flatten = encL enc l ∧ l.length = rows.length ∧ ∀ a, a ∈ l → q a
 | [], _ => ⟨[], rfl, rfl, fun a h => by cases h⟩
 | r :: rows, hr => by
   obtain ⟨a, rfl, ha⟩ := h r (hr r (List.mem_cons_self ..))
   obtain ⟨l, h1, h2, h3⟩ := rows_of h rows fun r h => hr r (List.mem_cons_of_mem _ h)
   refine ⟨a :: l, by rw [List.flatten_cons, h1]; rfl, by simp [h2], fun b hb => ?_⟩
   rcases List.mem_cons.1 hb with rfl | hb
   ·exact ha
   ·exact h3 b hb
theorem arg_vars {H : Type} {enc : TypeId × Value → H} {W : World} {base : Nat} {v : Value} {dd : DataW H} {p ps : List MemPlace} (hok : Value.okWide Try.prog W .any base 22 v)
  (h : DataW.Trod enc Try.prog W 0 (fun _ => true) true 22 v dd p) (hps : ∀ q, q ∈ p → q ∈ ps) : ∃ (l : List GVar) (a : AV), SlV encVar 10 l a ∧ (∀ v ∈ l, Plain v) ∧ l.length ≤ maxLen ∧ Con (envOf (imOf W ps)) a v := by
 rcases arg_slice (d := 5) Try.underlying22 (by kernel_rfl) hok h hps with rfl | ⟨rows, h1, h2, h3, h4⟩
 ·exact ⟨[], .nsl, .inr ⟨rfl, rfl⟩, fun v h => (by cases h), Nat.zero_le _, by simp only [Con]⟩
 ·obtain ⟨l, k1, k2, k3⟩ := rows_of (enc := encVar) (q := Plain) (fun r hr => fit_var hr) rows h1
  have hc : Try.prog.cellsOf 50 = 10 := by kernel_rfl
  refine ⟨l, vslOf encVar 10 l, .inl rfl, k3, by omega, ?_⟩
  have h4' := h4
  rw [k1, hc, ← k2] at h4'
  exact h4'
theorem arg_val {H : Type} {enc : TypeId × Value → H} {W : World} {base : Nat} {v : Value} {dd : DataW H} {p ps : List MemPlace} (hok : Value.okWide Try.prog W .any base 25 v)
  (h : DataW.Trod enc Try.prog W 0 (fun _ => true) true 25 v dd p) : ∃ x : GVal, x.f < 18446744073709551616 ∧ Con (envOf (imOf W ps)) (.agg (encVal x)) v := by
 obtain ⟨cs, rfl, _⟩ := Go.WideShapes.okWide_struct Try.underlying25 hok
 obtain ⟨rs, h1, h2, h3⟩ := arg_flat (d := 5) (base := 0) (by kernel_rfl) h
 obtain ⟨x, rfl, hx⟩ := fit_val h1
 exact ⟨x, hx, h3 _⟩
end Go.Proofs.Ytbceomdmpbmnkaa.vars
