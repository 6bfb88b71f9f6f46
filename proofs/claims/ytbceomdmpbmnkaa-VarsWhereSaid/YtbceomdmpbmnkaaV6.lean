/-
  What the functions of vars come to, each by its tree: Addrs, First.
-/
import Derived.Test.YtbceomdmpbmnkaaV5
import Derived.KernelRfl
set_option maxRecDepth 100000
set_option linter.unusedVariables false
set_option linter.unusedSimpArgs false
namespace Go.Proofs.Ytbceomdmpbmnkaa.vars
open Go Go.Sx
def c9 : VC := ⟨⟨[], []⟩, [(12, [none]), (27, [none])], [(0, [⟨[(11, .slx 0 0 0), (3, .slx 1 0 0), (2, .slx 0 1 2), (9, .sym 64), (10, .sym 67)], [], 1, 3, [⟨0, 1, 2, 2, none⟩], []⟩])]⟩
def t9 : VT :=
 (.call 12 [.sym 64] 65 [none]
 (.lt (.bin .neq 35 false true) [.sym 65, .int .i64 0] 66 none
 (.ite 66
  (.done (.tup [.nsl, .int .i64 0]))
  (.lt (.len 22) [.sym 64] 67 none
  (.loop 68 0 [.int .i64 0, .int .i64 0, .nsl]
   (.cons 3
   (.lt (.bin .lss 3 false false) [.sym 68, .sym 67] 71 none
   (.ite 71
    (.lt (.iaddr 22) [.sym 64, .sym 68] 72 none
    (.lt (.load 50) [.sym 72] 73 (some 10)
    (.lt (.app 1 8) [.sym 70, .agg [.sym 69]] 83 none
    (.call 27 [.agg [.sym 73, .sym 74, .sym 75, .sym 76, .sym 77, .sym 78, .sym 79, .sym 80, .sym 81, .sym 82]] 84 [none]
    (.lt (.bin .add 3 false false) [.sym 69, .sym 84] 85 none
    (.lt (.bin .add 3 false true) [.sym 68, .int .i64 1] 86 none
    (.again 0 0 [.sym 86, .sym 85, .sym 83])))))))
    (.done (.tup [.sym 70, .sym 69]))))
   .nil))))))
/-- first cells, from a number on -/
def addrsF : List GVar → Int → List Int
  | [], _ => []
  | v :: r, n => n :: addrsF r (IntKind.i64.wrap (n + wid v))
theorem addrsF_snoc (v : GVar) : ∀ (l : List GVar) (n : Int), addrsF (l ++ [v]) n = addrsF l n ++ [sumW l n]
  | [], _ => rfl
  | a :: r, n => by simp only [List.cons_append, addrsF, sumW, addrsF_snoc v r]
theorem addrsF_len : ∀ (l : List GVar) (n : Int), (addrsF l n).length = l.length
  | [], _ => rfl
  | a :: r, n => by simp [addrsF, addrsF_len r]
theorem app1_8 (l : List Int) (n : Int) (hl : l.length ≤ 100000) : (XOp.app 1 8).run Try.prog [ints l, .agg [.int .i64 n]] = some (ints (l ++ [n])) := run_app_sl (enc := encI) lenI (by decide) (by decide) l n (by omega)
theorem app3_24 (l : List GVal) (v : GVal) (hl : l.length ≤ 100000) : (XOp.app 3 24).run Try.prog [vals l, .agg (encVal v)] = some (vals (l ++ [v])) := run_app_sl (enc := encVal) lenVal (by decide) (by decide) l v (by omega)
theorem apps3_24 (l l' : List GVal) (hl : l.length + l'.length ≤ 100000) : (XOp.app 3 24).run Try.prog [vals l, vals l'] = some (vals (l ++ l')) := run_app_sls (enc := encVal) lenVal (by decide) (by decide) l l' (by omega)
theorem p9 (l : List GVar) (hl : l.length ≤ 1000) (hz : ∀ v ∈ l, Plain v) : Pure Try.prog 9 [vrs l] (if mayE l = 0 then .tup [ints (addrsF l 0), .int .i64 (sumW l 0)] else .tup [.nsl, .int .i64 0]) := by
  refine pure_shape (sh := [none]) (ls := [vrs l]) (c := c9) (n := 300) (t := t9) mo ov rfl (okC1 (okVrs l)) (by split <;> simp [noRef, noRefL, okC_noRef (okInts _)]) (fun Y _ => known0 _) rfl (by kernel_rfl) fun Y hf hg => ?_
  unfold t9
  refine VOK_call (p12 l hl hz) rfl rfl (VOK_lt (run_neq ..) rfl (VOK_ite rfl (fun h => VOK_done ?_) (fun h => VOK_lt (len22 l) rfl ?_)))
  · have h' : ¬ mayE l = 0 := by simpa using h
    rw [if_neg h']; rfl
  have h' : mayE l = 0 := by simpa using h
  rw [if_pos h']
  refine VOK_loop (ι := Nat) (fun i => [.int .i64 i, .int .i64 (sumW (l.take i) 0), ints (addrsF (l.take i) 0)]) (fun i => i ≤ l.length) (fun i => l.length - i) 0 (Nat.zero_le _) rfl
    (fun i _ => by simp only [okL, okC, okInts]) (fun i j _ _ h => ?_) (fun i hi => ?_)
  · simp at h; have h : i = j := by omega
    rw [h]
  refine VOK_lt (run_lss ..) rfl (VOK_ite rfl (fun hlt => ?_) (fun hlt => VOK_done ?_))
  · have hlt : i < l.length := by simp only [decide_eq_true_eq] at hlt; omega
    refine VOK_lt (ia22 hlt) (encL_ok okVar _) (VOK_ltN (ld50 hlt) rfl rfl (VOK_lt (app1_8 _ _ (by rw [addrsF_len, List.length_take]; omega)) (okInts _) (VOK_call (p27 l[i]) rfl rfl (VOK_lt (run_add ..) rfl (VOK_lt (run_add ..) rfl (VOK_again rfl ⟨i + 1, hlt, ?_, by omega⟩))))))
    rw [take_snoc l hlt, sumW_snoc, addrsF_snoc, ← wrapS hlt hl]; rfl
  · have he : i = l.length := by simp only [decide_eq_false_iff_not] at hlt; omega
    subst he
    show AV.tup [ints (addrsF (l.take l.length) 0), .int .i64 (sumW (l.take l.length) 0)] = _
    rw [List.take_length]

/-! ### Repeat, of one value, some times -/
def reps : Nat → List AV
  | 0 => []
  | k + 1 => .sym 64 :: .sym 65 :: .sym 66 :: reps k
theorem p33 (v : GVal) (k : Nat) (h1 : 1 ≤ k) (h8 : k ≤ 8) : Pure Try.prog 33 [vals [v], .int .i64 (k : Int)] (vals (List.replicate k v)) := by
  have key : ∀ k : Nat, 1 ≤ k → @vFn gI Try.prog 300 ⟨⟨[], []⟩, [], []⟩ 33 [.vsl 1 3 [.sym 64, .sym 65, .sym 66], .int .i64 (k : Int)] 67 = .done (.vsl k 3 (reps k)) → Pure Try.prog 33 [vals [v], .int .i64 (k : Int)] (vals (List.replicate k v)) := by
    intro k hk he
    refine pure_sym (ls := encVal v) (args' := [.vsl 1 3 [.sym 64, .sym 65, .sym 66], .int .i64 (k : Int)]) rfl (okC_noRef (okVals _)) rfl rfl (fun Y hf => rfl) fun Y hf hg => vFn_ok (c := ⟨⟨[], []⟩, [], []⟩) (n := 67) mo (callN_ok mo ov 300) ⟨(hf.puts (encVal v)).1, known0 _⟩ ?_
    rw [he]
    have hd : denL (Y.puts 64 (encVal v)).v (reps k) = encL encVal (List.replicate k v) := by
      clear he hk
      induction k with
      | zero => rfl
      | succ k ih =>
        show denL (Y.puts 64 (encVal v)).v (.sym 64 :: .sym 65 :: .sym 66 :: reps k) = encVal v ++ encL encVal (List.replicate k v)
        simp only [denL, ih]
        rfl
    refine VOK_done ?_
    cases k with
    | zero => omega
    | succ k =>
      show AV.vsl (k + 1) 3 (denL (Y.puts 64 (encVal v)).v (reps (k + 1))) = _
      rw [hd]
      show _ = AV.vsl ((List.replicate k v).length + 1) 3 (encL encVal (v :: List.replicate k v))
      rw [List.length_replicate]; rfl
  rcases (by omega : k = 1 ∨ k = 2 ∨ k = 3 ∨ k = 4 ∨ k = 5 ∨ k = 6 ∨ k = 7 ∨ k = 8) with rfl | rfl | rfl | rfl | rfl | rfl | rfl | rfl
  all_goals exact key _ (by omega) (by kernel_rfl)
end Go.Proofs.Ytbceomdmpbmnkaa.vars
