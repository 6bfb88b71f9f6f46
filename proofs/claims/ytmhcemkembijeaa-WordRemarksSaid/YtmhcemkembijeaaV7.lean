/-
  All words of a text, by the program and by the document.
-/
import Derived.Test.YtmhcemkembijeaaV3
import Derived.Test.YtmhcemkembijeaaFA
import Derived.KernelRfl
import Derived.Test.YtmhcemkembijeaaSyS
import Derived.Test.YtmhcemkembijeaaSyG
set_option maxRecDepth 100000
set_option linter.unusedVariables false
set_option linter.unusedSimpArgs false
namespace Go.Proofs.Ytmhcemkembijeaa.vars
open Go Go.Sx
theorem lenW (w : GWord) : (encW w).length = 5 := rfl
theorem okW (w : GWord) : okL (encW w) = true := rfl
abbrev wds (l : List GWord) : AV := sliceOf encW 5 l
theorem okC1 {a : AV} (h : okC a = true) : okL [a] = true := by simp only [okL, h]
theorem okIC {k : IntKind} {n : Int} {a : AV} (h : okC a = true) : okL [.int k n, a] = true := by
 show (match okC a with | true => true | false => false) = true
 rw [h]
theorem okWds (l : List GWord) : okC (wds l) = true := sliceOf_ok okW l
theorem isMs_len {r : List UInt8} (h : isMs r = true) : 2 ≤ r.length := by
 rcases r with _ | ⟨a, _ | ⟨b, t⟩⟩
 ·cases h
 ·cases h
 ·simp
theorem behind_len (r : List UInt8) : 0 < behind r → behind r + 1 ≤ r.length := by
 intro h
 rcases r with _ | ⟨c, r⟩
 ·simp [behind] at h
 ·simp only [behind] at h ⊢
  split at h
  ·rename_i e
   rw [if_pos e]
   have := span_le isD r
   simp; exact this
  ·omega
theorem markS_len (s : List UInt8) : (markS s).length ≤ s.length := by
 rcases s with _ | ⟨a, _ | ⟨b, t⟩⟩
 ·simp [markS]
 ·simp only [markS]; split <;> simp
 ·simp only [markS]
  split
  ·simp
  ·split <;> simp
theorem oneS_len (c : UInt8) (r : List UInt8) {w : GWord} {n : Nat} (h : oneS (c :: r) = some (w, n)) : 1 ≤ n ∧ n ≤ (c :: r).length := by
 unfold oneS at h
 simp only at h
 split at h
 ·rename_i hL
  cases h
  refine ⟨?_, span_le _ _⟩
  unfold span
  rw [List.takeWhile_cons]
  have : isLD c = true := by unfold isLD; rw [hL]; rfl
  rw [this]; simp
 ·split at h
  ·rename_i hD
   have h1 : 1 ≤ span isD (c :: r) := by
    unfold span
    rw [List.takeWhile_cons, hD]; simp
   have h2 := span_le isD (c :: r)
   unfold numS at h
   split at h
   ·cases h
   ·split at h
    ·rename_i hb
     cases h
     have := behind_len _ hb
     rw [List.length_drop] at this
     exact ⟨by omega, by omega⟩
    ·have h := Option.some.inj h
     unfold msS at h
     split at h
     ·rename_i hm
      have := isMs_len hm
      rw [List.length_drop] at this
      cases h
      exact ⟨by omega, by omega⟩
     ·cases h
      exact ⟨h1, h2⟩
  ·split at h
   ·cases h
   ·rename_i hm
    cases h
    exact ⟨List.length_pos_iff.2 hm, markS_len _⟩
def wordsR : Nat → List UInt8 → Nat → List GWord → List GWord × Nat × Bool
 | 0, _, _, _ => ([], 0, false)
 | f + 1, s, p, l =>
   if s.length ≤ p + bl false (s.drop p) then (l, 0, true)
   else match oneS (s.drop (p + bl false (s.drop p))) with
    | none => ([], p + bl false (s.drop p), false)
    | some (w, n) => if 300 ≤ l.length then ([], p + bl false (s.drop p), false) else wordsR f s (p + bl false (s.drop p) + n) (l ++ [{ w with place := ((p + bl false (s.drop p) : Nat) : Int) }])
def wordsS (s : List UInt8) : List GWord × Nat × Bool := if 1200 < s.length then ([], 0, false) else wordsR (s.length + 1) s 0 []
def wordsRes (r : List GWord × Nat × Bool) : AV := .tup [wds r.1, .int .i64 (r.2.1 : Int), .bool r.2.2]
theorem wordsRes_ref (r : List GWord × Nat × Bool) : noRef (wordsRes r) = true := by
 have := okC_noRef (okWds r.1)
 simp only [wordsRes, noRef, noRefL, this]
theorem wordsR_skip (f : Nat) (s : List UInt8) (p q : Nat) (l : List GWord) (h : p + bl false (s.drop p) = q + bl false (s.drop q)) : wordsR f s p l = wordsR f s q l := by
 cases f with
 | zero => rfl
 | succ f => simp only [wordsR, h]
def c7 : VC := ⟨⟨[], []⟩, [(10, [none]), (11, [(some 5), none, none])], [(0, [⟨[(3, .slx 0 0 0), (2, .slx 0 5 1), (0, 64)], [], 1, 2, [⟨0, 5, 1, 2, none⟩], [], []⟩])], 0, false, []⟩
def t7 : VT :=
 (.lt (.len 9) [64] 65 none
 (.lt (.bin .gtr 3 false true) [65, J 1200] 66 none
 (.ite 66
 (.done (.tup [.nsl, J 0, .bool false]))
 (.call 10 [64] 67 [none]
 (.loop 68 0 [67, .nsl]
 (.cons 2
 (.lt (.len 9) [64] 70 none
 (.lt (.bin .lss 3 false false) [68, 70] 71 none
 (.ite 71
 (.lt (.slc 9 true false) [64, 68] 72 none
 (.call 11 [72] 73 [(some 5), none, none]
 (.lt (.un .not) [79] 80 none
 (.ite 80
 (.done (.tup [.nsl, 68, .bool false]))
 (.lt (.len 25) [69] 81 none
 (.lt (.bin .geq 3 false true) [81, J 300] 82 none
 (.ite 82
 (.done (.tup [.nsl, 68, .bool false]))
 (.lt (.app 5 48) [69, .agg [73, 74, 75, 76, 68]] 83 none
 (.lt (.bin .add 3 false false) [68, 78] 84 none
 (.lt (.slc 9 true false) [64, 84] 85 none
 (.call 10 [85] 86 [none]
 (.lt (.bin .add 3 false false) [84, 86] 87 none
 (.again 0 0 [87, 83])))))))))))))
 (.done (.tup [69, J 0, .bool true])))))
 .nil))))))
theorem p7 (s : List UInt8) (hs : s.length < 9223372036854775000) : Pure Try.prog 7 [.str s] (wordsRes (wordsS s)) := by
 refine pure_shape (sh := [none]) (ls := [.str s]) (c := c7) (n := 300) (t := t7) mo ov rfl rfl (wordsRes_ref _) (fun Y _ => known0 _) rfl (by kernel_rfl) fun Y hf hg => ?_
 unfold t7
 refine VOK_lt (run_len_str str9 s) rfl (VOK_lt (run_gtr ..) rfl (VOK_ite rfl (fun hl => VOK_done ?_) (fun hl => ?_)))
 ·have hl : 1200 < s.length := by simp only [decide_eq_true_eq] at hl; omega
  unfold wordsS
  rw [if_pos hl]; rfl
 have hl : ¬ 1200 < s.length := by simp only [decide_eq_false_iff_not] at hl; omega
 have hb0 := bl_le false s
 refine VOK_call (p10 s (by omega)) rfl rfl ?_
 refine VOK_loop (ι := Nat × List GWord) (fun x => [.int .i64 (x.1 : Int), wds x.2]) (fun x => x.1 ≤ s.length ∧ ∃ f q, x.1 = q + bl false (s.drop q) ∧ s.length < q + f ∧ wordsS s = wordsR f s q x.2) (fun x => s.length - x.1) (bl false s, [])
  ⟨hb0, s.length + 1, 0, by simp, by omega, by unfold wordsS; rw [if_neg hl]⟩ rfl (fun x _ => okIC (okWds x.2)) (fun x y _ _ h => ?_) (fun x hx => ?_)
 ·simp at h; have h : x.1 = y.1 := by omega
  rw [h]
 obtain ⟨p, l⟩ := x
 obtain ⟨hp, f, q, hq, hf1, hw⟩ := hx
 simp only at hp hq hw ⊢
 obtain ⟨f, rfl⟩ : ∃ f', f = f' + 1 := by
  rcases f with _ | f
  ·exfalso; have := bl_le false (s.drop q); rw [List.length_drop] at this; omega
  ·exact ⟨f, rfl⟩
 simp only [wordsR, ← hq] at hw
 refine VOK_lt (run_len_str str9 s) rfl (VOK_lt (run_lss ..) rfl (VOK_ite rfl (fun hlt => ?_) (fun hlt => VOK_done ?_)))
 ·have hlt : p < s.length := by simp only [decide_eq_true_eq] at hlt; omega
  rw [if_neg (by omega)] at hw
  have hd := List.drop_eq_getElem_cons hlt
  have h11 := p11 s[p] (s.drop (p + 1)) (by rw [← hd, List.length_drop]; omega)
  rw [← hd] at h11
  refine VOK_lt (run_slc10_str str9 s .i64 p hp) rfl ?_
  rcases ho : oneS (s.drop p) with _ | ⟨w, n⟩
  ·rw [ho] at h11 hw
   refine VOK_call h11 rfl rfl (VOK_lt (run_not ..) rfl (VOK_ite rfl (fun _ => VOK_done ?_) (fun h => by cases h)))
   rw [hw]; rfl
  ·rw [ho] at h11 hw
   have hn := oneS_len s[p] (s.drop (p + 1)) (by rw [← hd]; exact ho)
   rw [← hd, List.length_drop] at hn
   refine VOK_call h11 rfl rfl (VOK_lt (run_not ..) rfl (VOK_ite rfl (fun h => by cases h) (fun _ => VOK_lt (run_len_sl Try.underlying25 l) rfl (VOK_lt (run_geq ..) rfl (VOK_ite rfl (fun h => VOK_done ?_) (fun h => ?_))))))
   ·have h : 300 ≤ l.length := by simp only [decide_eq_true_eq] at h; omega
    simp only [if_pos h] at hw
    rw [hw]; rfl
   ·have h : ¬ 300 ≤ l.length := by simp only [decide_eq_false_iff_not] at h; omega
    simp only [if_neg h] at hw
    have hb := bl_le false (s.drop (p + n))
    rw [List.length_drop] at hb
    refine VOK_lt (run_app_sl (enc := encW) lenW (by decide) (by decide) l { w with place := (p : Int) } (by omega)) (okWds _) (VOK_lt (run_add ..) rfl ?_)
    rw [add64 (by omega)]
    refine VOK_lt (run_slc10_str str9 s .i64 (p + n) (by omega)) rfl (VOK_call (p10 _ (by rw [List.length_drop]; omega)) rfl rfl (VOK_lt (run_add ..) rfl ?_))
    rw [add64 (by omega)]
    exact VOK_again rfl ⟨(p + n + bl false (s.drop (p + n)), l ++ [{ w with place := (p : Int) }]), ⟨by omega, f, p + n, rfl, by omega, hw⟩, rfl, by simp only; omega⟩
 ·have hlt : ¬ p < s.length := by simp only [decide_eq_false_iff_not] at hlt; omega
  rw [if_pos (by omega)] at hw
  rw [hw]; rfl
end Go.Proofs.Ytmhcemkembijeaa.vars
set_option maxRecDepth 100000
set_option linter.unusedVariables false
set_option linter.unusedSimpArgs false
namespace Go.Proofs.Ytmhcemkembijeaa.vars
open Go Go.Sx
def c8 : VC := ⟨⟨[], []⟩, [(12, [(some 5), none])], [(0, [⟨[(6, .slx 0 0 0), (5, .slx 0 5 1), (0, 64)], [], 1, 2, [⟨0, 5, 1, 5, none⟩], [], []⟩]), (2, [⟨[(6, .slx 0 0 0), (35, 67), (37, 64), (38, 77), (36, 76), (39, .bool true), (43, 67), (44, 79), (42, 64), (45, 80), (46, .bool true), (5, .slx 0 5 1), (0, 64), (28, .bool false), (27, 71), (24, .bool false), (23, 71)], [], 1, 2, [⟨0, 5, 1, 5, none⟩], [], []⟩])], 0, false, []⟩
def word8 (q : Nat) : VT :=
 (.lt (.slc 9 true false) [.sym 64, .sym 67] q none
 (.call 12 [.sym q] (q + 1) [(some 5), none]
 (.lt (.bin .eql 3 false true) [.sym (q + 6), .int .i64 0] (q + 7) none
 (.ite (q + 7)
  (.done (.tup [.nsl, .sym 67, .bool false]))
  (.lt (.len 25) [.sym 68] (q + 8) none
  (.lt (.bin .geq 3 false true) [.sym (q + 8), .int .i64 300] (q + 9) none
  (.ite (q + 9)
   (.done (.tup [.nsl, .sym 67, .bool false]))
   (.lt (.app 5 48) [.sym 68, .agg [.sym (q + 1), .sym (q + 2), .sym (q + 3), .sym (q + 4), .sym 67]] (q + 10) none
   (.lt (.bin .add 3 false false) [.sym 67, .sym (q + 6)] (q + 11) none
   (.again 0 0 [.sym (q + 11), .sym (q + 10)]))))))))))
def t8 : VT :=
 (.lt (.len 9) [64] 65 none
 (.lt (.bin .gtr 3 false true) [65, J 1200] 66 none
 (.ite 66
 (.done (.tup [.nsl, J 0, .bool false]))
 (.loop 67 0 [J 0, .nsl]
 (.cons 2
 (.lt (.len 9) [64] 69 none
 (.lt (.bin .lss 3 false false) [67, 69] 70 none
 (.ite 70
 (.lt (.idx 9) [64, 67] 71 none
 (.lt (.bin .eql 5 false true) [71, .int .u8 32] 72 none
 (.ite 72
 (.lt (.bin .add 3 false true) [67, J 1] 73 none
 (.again 0 0 [73, 68]))
 (.lt (.bin .eql 5 false true) [71, .int .u8 9] 73 none
 (.ite 73
 (.lt (.bin .add 3 false true) [67, J 1] 74 none
 (.again 0 0 [74, 68]))
 (.lt (.bin .eql 5 false true) [71, .int .u8 10] 74 none
 (.ite 74
 (.lt (.bin .add 3 false true) [67, J 1] 75 none
 (.again 0 0 [75, 68]))
 (.lt (.bin .eql 5 false true) [71, .int .u8 47] 75 none
 (.ite 75
 (.lt (.bin .add 3 false true) [67, J 1] 76 none
 (.lt (.len 9) [64] 77 none
 (.lt (.bin .lss 3 false false) [76, 77] 78 none
 (.ite 78
 (.lt (.bin .add 3 false true) [67, J 1] 79 none
 (.lt (.idx 9) [64, 79] 80 none
 (.lt (.bin .eql 5 false true) [80, .int .u8 47] 81 none
 (.ite 81
 (.loop 82 0 [67, 68]
 (.cons 2
 (.lt (.len 9) [64] 84 none
 (.lt (.bin .lss 3 false false) [82, 84] 85 none
 (.ite 85
 (.lt (.idx 9) [64, 82] 86 none
 (.lt (.bin .neq 5 false true) [86, .int .u8 10] 87 none
 (.ite 87
 (.lt (.bin .add 3 false true) [82, J 1] 88 none
 (.again 1 0 [88, 83]))
 (.again 0 0 [82, 83]))))
 (.again 0 0 [82, 83]))))
 .nil))
 (word8 82)))))
 (word8 79)))))
 (word8 76))))))))))
 (.done (.tup [68, J 0, .bool true])))))
 .nil)))))
theorem p8 (s : List UInt8) (hs : s.length < 9223372036854775000) : Pure Try.prog 8 [.str s] (wordsRes (wordsS s)) := by
 refine pure_shape (sh := [none]) (ls := [.str s]) (c := c8) (n := 300) (t := t8) mo ov rfl rfl (wordsRes_ref _) (fun Y _ => known0 _) rfl (by kernel_rfl) fun Y hf hg => ?_
 unfold t8
 refine VOK_lt (run_len_str str9 s) rfl (VOK_lt (run_gtr ..) rfl (VOK_ite rfl (fun hl => VOK_done ?_) (fun hl => ?_)))
 ·have hl : 1200 < s.length := by simp only [decide_eq_true_eq] at hl; omega
  unfold wordsS
  rw [if_pos hl]; rfl
 have hl : ¬ 1200 < s.length := by simp only [decide_eq_false_iff_not] at hl; omega
 refine VOK_loop (ι := Nat × List GWord) (fun x => [.int .i64 (x.1 : Int), wds x.2]) (fun x => x.1 ≤ s.length ∧ ∃ f, s.length < x.1 + f ∧ wordsS s = wordsR f s x.1 x.2) (fun x => s.length - x.1) (0, [])
  ⟨Nat.zero_le _, s.length + 1, by simp only; omega, by unfold wordsS; rw [if_neg hl]⟩ rfl (fun x _ => okIC (okWds x.2)) (fun x y _ _ h => ?_) (fun x hx => ?_)
 ·simp at h; have h : x.1 = y.1 := by omega
  rw [h]
 obtain ⟨p, l⟩ := x
 obtain ⟨hp, f, hf1, hw0⟩ := hx
 simp only at hp hw0 hf1 ⊢
 have hw := hw0
 obtain ⟨f, rfl⟩ : ∃ f', f = f' + 1 := by
  rcases f with _ | f
  ·exfalso; omega
  ·exact ⟨f, rfl⟩
 simp only [wordsR] at hw
 refine VOK_lt (run_len_str str9 s) rfl (VOK_lt (run_lss ..) rfl (VOK_ite rfl (fun hlt => ?_) (fun hlt => VOK_done ?_)))
 ·have hlt : p < s.length := by simp only [decide_eq_true_eq] at hlt; omega
  have hd := List.drop_eq_getElem_cons hlt
  have h12 := p12 s[p] (s.drop (p + 1)) (by rw [← hd, List.length_drop]; omega)
  rw [← hd] at h12
  have hskip : isB s[p] = true → wordsS s = wordsR (f + 1) s (p + 1) l := fun h => by
   rw [hw0]
   refine wordsR_skip _ _ _ _ _ ?_
   rw [hd]; simp only [bl, h, reduceIte]; omega
  refine VOK_lt (run_idx_str str9 s .i64 p hlt) rfl (VOK_lt (at_eq hlt 32 32 rfl ..) rfl (VOK_ite rfl (fun h32 => VOK_lt (run_add ..) rfl (VOK_again rfl ⟨(p + 1, l), ⟨hlt, f + 1, by simp only; omega, hskip ?_⟩, congrArg (fun x => [AV.int .i64 x, wds l]) (inc64 (by omega)), by simp only; omega⟩)) (fun h32 => ?_)))
  ·unfold isB; rw [h32]; rfl
  refine VOK_lt (at_eq hlt 9 9 rfl ..) rfl (VOK_ite rfl (fun h9 => VOK_lt (run_add ..) rfl (VOK_again rfl ⟨(p + 1, l), ⟨hlt, f + 1, by simp only; omega, hskip ?_⟩, congrArg (fun x => [AV.int .i64 x, wds l]) (inc64 (by omega)), by simp only; omega⟩)) (fun h9 => ?_))
  ·unfold isB; rw [h9]; simp
  refine VOK_lt (at_eq hlt 10 10 rfl ..) rfl (VOK_ite rfl (fun h10 => VOK_lt (run_add ..) rfl (VOK_again rfl ⟨(p + 1, l), ⟨hlt, f + 1, by simp only; omega, hskip ?_⟩, congrArg (fun x => [AV.int .i64 x, wds l]) (inc64 (by omega)), by simp only; omega⟩)) (fun h10 => ?_))
  ·unfold isB; rw [h10]; simp
  have hnb : isB s[p] = false := by unfold isB; rw [h32, h9, h10]; rfl
  refine VOK_lt (at_eq hlt 47 47 rfl ..) rfl (VOK_ite rfl (fun h47 => ?_) (fun h47 => ?_))
  ·have h47 := of_decide_eq_true h47
   refine VOK_lt (run_add ..) rfl ?_
   rw [inc64 (by omega)]
   refine VOK_lt (run_len_str str9 s) rfl (VOK_lt (run_lss ..) rfl (VOK_ite rfl (fun hlt2 => ?_) (fun hlt2 => ?_)))
   ·have hlt2 : p + 1 < s.length := by simp only [decide_eq_true_eq] at hlt2; omega
    refine VOK_lt (run_add ..) rfl ?_
    rw [inc64 (by omega)]
    refine VOK_lt (run_idx_str str9 s .i64 (p + 1) hlt2) rfl (VOK_lt (at_eq hlt2 47 47 rfl ..) rfl (VOK_ite rfl (fun hs2 => ?_) (fun hs2 => ?_)))
    ·have hs2 := of_decide_eq_true hs2
     have hsl : s[p] = 47 ∧ (s.drop (p + 1)).head? = some 47 := ⟨h47, by rw [List.drop_eq_getElem_cons hlt2, hs2]; rfl⟩
     have hsp1 : 1 ≤ span notNl (s.drop p) := by
      rw [span_at notNl s p hlt, (nl_iff _).2 (by rw [h47]; decide), if_pos rfl]; omega
     have hcom : wordsS s = wordsR (f + 1) s (p + span notNl (s.drop p)) l := by
      rw [hw0]
      refine wordsR_skip _ _ _ _ _ ?_
      have e : bl false (s.drop p) = bl true (s.drop p) := by
       conv => lhs; rw [hd]
       simp only [bl, hnb, Bool.false_eq_true, reduceIte, if_pos hsl]
       conv => rhs; rw [hd]
       simp only [bl, (nl_iff s[p]).2 (by rw [h47]; decide)]
      rw [e, bl_true, List.drop_drop]; omega
     refine VOK_loop (ι := Nat) (fun n => [.int .i64 (n : Int), wds l]) (fun n => n ≤ s.length ∧ p + span notNl (s.drop p) = n + span notNl (s.drop n)) (fun n => s.length - n) p ⟨hp, rfl⟩ rfl (fun _ _ => okIC (okWds l)) (fun i j _ _ h => ?_) (fun n hn => ?_)
     ·simp at h; have h : i = j := by omega
      rw [h]
     obtain ⟨hn, hc⟩ := hn
     refine VOK_lt (run_len_str str9 s) rfl (VOK_lt (run_lss ..) rfl (VOK_ite rfl (fun g => ?_) (fun g => ?_)))
     ·have g : n < s.length := by simp only [decide_eq_true_eq] at g; omega
      have hx := span_at notNl s n g
      refine VOK_lt (run_idx_str str9 s .i64 n g) rfl (VOK_lt (at_ne g 10 10 rfl ..) rfl (VOK_ite rfl (fun g2 => ?_) (fun g2 => ?_)))
      ·have g2 : notNl s[n] = true := (nl_iff _).2 (by simpa using g2)
       rw [g2, if_pos rfl] at hx
       exact VOK_lt (run_add ..) rfl (VOK_again rfl ⟨n + 1, ⟨g, by omega⟩, congrArg (fun x => [AV.int .i64 x, wds l]) (inc64 (by omega)), by omega⟩)
      ·have g2 : notNl s[n] = false := by
         have : s[n] = 10 := by simpa using g2
         rw [this]; rfl
       rw [g2] at hx
       have hx : span notNl (s.drop n) = 0 := hx
       rw [hx, Nat.add_zero] at hc
       exact VOK_again rfl ⟨(n, l), ⟨hn, f + 1, by simp only; omega, by simp only; rw [← hc]; exact hcom⟩, rfl, by simp only; omega⟩
     ·have g : ¬ n < s.length := by simp only [decide_eq_false_iff_not] at g; omega
      have hz : span notNl (s.drop n) = 0 := by rw [List.drop_eq_nil_of_le (by omega)]; rfl
      rw [hz, Nat.add_zero] at hc
      exact VOK_again rfl ⟨(n, l), ⟨hn, f + 1, by simp only; omega, by simp only; rw [← hc]; exact hcom⟩, rfl, by simp only; omega⟩
    ·have hns : ¬ (s[p] = 47 ∧ (s.drop (p + 1)).head? = some 47) := by
       rintro ⟨_, h⟩
       rw [List.drop_eq_getElem_cons hlt2] at h
       exact of_decide_eq_false hs2 (Option.some.inj h)
     rw [if_neg (by rw [hd]; simp only [bl, hnb, Bool.false_eq_true, reduceIte, if_neg hns]; omega)] at hw
     have hz : bl false (s.drop p) = 0 := by
      rw [hd]; simp only [bl, hnb, Bool.false_eq_true, reduceIte, if_neg hns]
     unfold word8
     rw [hz, Nat.add_zero] at hw
     refine VOK_lt (run_slc10_str str9 s .i64 p hp) rfl ?_
     rcases ho : oneS (s.drop p) with _ | ⟨w, n⟩
     ·rw [ho] at h12 hw
      refine VOK_call h12 rfl rfl (VOK_lt (run_eql ..) rfl (VOK_ite rfl (fun _ => VOK_done ?_) (fun h => by cases h)))
      rw [hw]; rfl
     ·rw [ho] at h12 hw
      have hn := oneS_len s[p] (s.drop (p + 1)) (by rw [← hd]; exact ho)
      rw [← hd, List.length_drop] at hn
      refine VOK_call h12 rfl rfl (VOK_lt (run_eql ..) rfl (VOK_ite rfl (fun h => ?_) (fun _ => VOK_lt (run_len_sl Try.underlying25 l) rfl (VOK_lt (run_geq ..) rfl (VOK_ite rfl (fun h => VOK_done ?_) (fun h => ?_))))))
      ·exfalso
       have h : (n : Int) = 0 := of_decide_eq_true h
       omega
      ·have h : 300 ≤ l.length := by simp only [decide_eq_true_eq] at h; omega
       simp only [if_pos h] at hw
       rw [hw]; rfl
      ·have h : ¬ 300 ≤ l.length := by simp only [decide_eq_false_iff_not] at h; omega
       simp only [if_neg h] at hw
       refine VOK_lt (run_app_sl (enc := encW) lenW (by decide) (by decide) l { w with place := (p : Int) } (by omega)) (okWds _) (VOK_lt (run_add ..) rfl ?_)
       rw [add64 (by omega)]
       exact VOK_again rfl ⟨(p + n, l ++ [{ w with place := (p : Int) }]), ⟨by simp only; omega, f, by simp only; omega, hw⟩, rfl, by simp only; omega⟩
   ·have hlt2 : ¬ p + 1 < s.length := by simp only [decide_eq_false_iff_not] at hlt2; omega
    have hns : ¬ (s[p] = 47 ∧ (s.drop (p + 1)).head? = some 47) := by
     rintro ⟨_, h⟩
     rw [List.drop_eq_nil_of_le (by omega)] at h
     cases h
    rw [if_neg (by rw [hd]; simp only [bl, hnb, Bool.false_eq_true, reduceIte, if_neg hns]; omega)] at hw
    have hz : bl false (s.drop p) = 0 := by
     rw [hd]; simp only [bl, hnb, Bool.false_eq_true, reduceIte, if_neg hns]
    unfold word8
    rw [hz, Nat.add_zero] at hw
    refine VOK_lt (run_slc10_str str9 s .i64 p hp) rfl ?_
    rcases ho : oneS (s.drop p) with _ | ⟨w, n⟩
    ·rw [ho] at h12 hw
     refine VOK_call h12 rfl rfl (VOK_lt (run_eql ..) rfl (VOK_ite rfl (fun _ => VOK_done ?_) (fun h => by cases h)))
     rw [hw]; rfl
    ·rw [ho] at h12 hw
     have hn := oneS_len s[p] (s.drop (p + 1)) (by rw [← hd]; exact ho)
     rw [← hd, List.length_drop] at hn
     refine VOK_call h12 rfl rfl (VOK_lt (run_eql ..) rfl (VOK_ite rfl (fun h => ?_) (fun _ => VOK_lt (run_len_sl Try.underlying25 l) rfl (VOK_lt (run_geq ..) rfl (VOK_ite rfl (fun h => VOK_done ?_) (fun h => ?_))))))
     ·exfalso
      have h : (n : Int) = 0 := of_decide_eq_true h
      omega
     ·have h : 300 ≤ l.length := by simp only [decide_eq_true_eq] at h; omega
      simp only [if_pos h] at hw
      rw [hw]; rfl
     ·have h : ¬ 300 ≤ l.length := by simp only [decide_eq_false_iff_not] at h; omega
      simp only [if_neg h] at hw
      refine VOK_lt (run_app_sl (enc := encW) lenW (by decide) (by decide) l { w with place := (p : Int) } (by omega)) (okWds _) (VOK_lt (run_add ..) rfl ?_)
      rw [add64 (by omega)]
      exact VOK_again rfl ⟨(p + n, l ++ [{ w with place := (p : Int) }]), ⟨by simp only; omega, f, by simp only; omega, hw⟩, rfl, by simp only; omega⟩
  ·have hns : ¬ (s[p] = 47 ∧ (s.drop (p + 1)).head? = some 47) := fun h => of_decide_eq_false h47 h.1
   rw [if_neg (by rw [hd]; simp only [bl, hnb, Bool.false_eq_true, reduceIte, if_neg hns]; omega)] at hw
   have hz : bl false (s.drop p) = 0 := by
    rw [hd]; simp only [bl, hnb, Bool.false_eq_true, reduceIte, if_neg hns]
   unfold word8
   rw [hz, Nat.add_zero] at hw
   refine VOK_lt (run_slc10_str str9 s .i64 p hp) rfl ?_
   rcases ho : oneS (s.drop p) with _ | ⟨w, n⟩
   ·rw [ho] at h12 hw
    refine VOK_call h12 rfl rfl (VOK_lt (run_eql ..) rfl (VOK_ite rfl (fun _ => VOK_done ?_) (fun h => by cases h)))
    rw [hw]; rfl
   ·rw [ho] at h12 hw
    have hn := oneS_len s[p] (s.drop (p + 1)) (by rw [← hd]; exact ho)
    rw [← hd, List.length_drop] at hn
    refine VOK_call h12 rfl rfl (VOK_lt (run_eql ..) rfl (VOK_ite rfl (fun h => ?_) (fun _ => VOK_lt (run_len_sl Try.underlying25 l) rfl (VOK_lt (run_geq ..) rfl (VOK_ite rfl (fun h => VOK_done ?_) (fun h => ?_))))))
    ·exfalso
     have h : (n : Int) = 0 := of_decide_eq_true h
     omega
    ·have h : 300 ≤ l.length := by simp only [decide_eq_true_eq] at h; omega
     simp only [if_pos h] at hw
     rw [hw]; rfl
    ·have h : ¬ 300 ≤ l.length := by simp only [decide_eq_false_iff_not] at h; omega
     simp only [if_neg h] at hw
     refine VOK_lt (run_app_sl (enc := encW) lenW (by decide) (by decide) l { w with place := (p : Int) } (by omega)) (okWds _) (VOK_lt (run_add ..) rfl ?_)
     rw [add64 (by omega)]
     exact VOK_again rfl ⟨(p + n, l ++ [{ w with place := (p : Int) }]), ⟨by simp only; omega, f, by simp only; omega, hw⟩, rfl, by simp only; omega⟩
 ·have hlt : ¬ p < s.length := by simp only [decide_eq_false_iff_not] at hlt; omega
  rw [if_pos (by omega)] at hw
  rw [hw]; rfl
end Go.Proofs.Ytmhcemkembijeaa.vars
set_option maxRecDepth 100000
set_option linter.unusedVariables false
set_option linter.unusedSimpArgs false
namespace Go.Proofs.Ytmhcemkembijeaa.vars
open Go Go.Sx
def bitsF (n : Nat) : Int := if nanB n = true then 9221120237041090561 else (n : Int)
def c25 : VC := ⟨⟨[], []⟩, [], [], 0, false, []⟩
def t25 : VT :=
 (.lt (.bin .neq 31 false false) [64, 64] 65 none
 (.ite 65
 (.done (.int .u64 9221120237041090561))
 (.lt (.ext 30) [64] 66 none
 (.done (66)))))
theorem ext30 (n : Nat) : (XOp.ext 30).run Try.prog [.flt .f64 n] = some (.int .u64 (n : Int)) := by kernel_rfl
theorem p25 (n : Nat) : Pure Try.prog 25 [.flt .f64 n] (.int .u64 (bitsF n)) := by
 refine pure_shape (sh := [none]) (ls := [.flt .f64 n]) (c := c25) (n := 300) (t := t25) mo ov rfl rfl rfl (fun Y _ => known0 _) rfl (by kernel_rfl) fun Y hf hg => ?_
 unfold t25
 refine VOK_lt (run_fself ..) rfl (VOK_ite rfl (fun h => VOK_done ?_) (fun h => VOK_lt (ext30 n) rfl (VOK_done ?_)))
 ·show AV.int .u64 _ = _
  unfold bitsF; rw [if_pos h]
 ·show AV.int .u64 (n : Int) = _
  unfold bitsF; rw [h]; rfl
def c13 : VC := ⟨⟨[], []⟩, [(25, [none])], [], 0, false, []⟩
def t13 : VT :=
 (.call 25 [64] 66 [none]
 (.call 25 [65] 67 [none]
 (.lt (.bin .eql 46 false false) [66, 67] 68 none
 (.done (68)))))
theorem p13 (n : Nat) : Pure Try.prog 13 [.flt .f64 n, .flt .f64 n] (.bool true) := by
 refine pure_shape (sh := [none, none]) (ls := [.flt .f64 n, .flt .f64 n]) (c := c13) (n := 300) (t := t13) mo ov rfl rfl rfl (fun Y _ => known0 _) rfl (by kernel_rfl) fun Y hf hg => ?_
 unfold t13
 refine VOK_call (p25 n) rfl rfl (VOK_call (p25 n) rfl rfl (VOK_lt (run_eql ..) rfl (VOK_done ?_)))
 show AV.bool _ = _
 simp
def c9 : VC := ⟨⟨[], []⟩, [(13, [none])], [(0, [⟨[(5, .slx 0 0 0), (1, 65), (0, 64)], [], 0, 1, [], [], []⟩])], 0, false, []⟩
def t9 : VT :=
 (.lt (.len 25) [64] 66 none
 (.lt (.len 25) [65] 67 none
 (.lt (.bin .neq 3 false false) [66, 67] 68 none
 (.ite 68
 (.done (.bool false))
 (.loop 69 0 [J 0]
 (.cons 1
 (.lt (.len 25) [64] 70 none
 (.lt (.bin .lss 3 false false) [69, 70] 71 none
 (.ite 71
 (.lt (.iaddr 25) [64, 69] 72 none
 (.lt (.load 33) [72] 73 (some 5)
 (.lt (.iaddr 25) [65, 69] 78 none
 (.lt (.load 33) [78] 79 (some 5)
 (.lt (.bin .neq 3 false false) [73, 79] 84 none
 (.ite 84
 (.done (.bool false))
 (.lt (.bin .neq 9 false false) [74, 80] 85 none
 (.ite 85
 (.done (.bool false))
 (.lt (.bin .neq 2 false false) [75, 81] 86 none
 (.ite 86
 (.done (.bool false))
 (.lt (.bin .neq 3 false false) [77, 83] 87 none
 (.ite 87
 (.done (.bool false))
 (.call 13 [76, 82] 88 [none]
 (.lt (.un .not) [88] 89 none
 (.ite 89
 (.done (.bool false))
 (.lt (.bin .add 3 false true) [69, J 1] 90 none
 (.again 0 0 [90])))))))))))))))))
 (.done (.bool true)))))
 .nil))))))
theorem len25 (l : List GWord) : (XOp.len 25).run Try.prog [wds l] = some (.int .i64 (l.length : Int)) := run_len_sl Try.underlying25 l
theorem ia25 {l : List GWord} {i : Nat} (h : i < l.length) : (XOp.iaddr 25).run Try.prog [wds l, .int .i64 (i : Int)] = some (.vptr (encL encW (l.drop i))) :=
 run_iaddr_sl (ti := (Try.prog.info? 33).get!) Try.underlying25 (by kernel_rfl) (by kernel_rfl) lenW h .i64
theorem ld33 {l : List GWord} {i : Nat} (h : i < l.length) : (XOp.load 33).run Try.prog [.vptr (encL encW (l.drop i))] = some (.agg (encW l[i])) :=
 run_load_agg (ti := (Try.prog.info? 33).get!) Try.underlying33 rfl (by kernel_rfl) (by kernel_rfl) lenW h
theorem okVp (l : List GWord) : okC (.vptr (encL encW l)) = true := encL_ok okW l
theorem p9 (l : List GWord) (hl : l.length < 9223372036854775000) : Pure Try.prog 9 [wds l, wds l] (.bool true) := by
 refine pure_shape (sh := [none, none]) (ls := [wds l, wds l]) (c := c9) (n := 300) (t := t9) mo ov (by cases l <;> rfl) (by
  show (match okC (wds l) with | true => okL [wds l] | false => false) = true
  rw [okWds l]; exact okC1 (okWds l)) rfl (fun Y _ => known0 _) rfl (by kernel_rfl) fun Y hf hg => ?_
 unfold t9
 refine VOK_lt (len25 l) rfl (VOK_lt (len25 l) rfl (VOK_lt (run_neq ..) rfl (VOK_ite rfl (fun h => ?_) (fun h => ?_))))
 ·simp at h
 refine VOK_loop (ι := Nat) (fun n => [.int .i64 (n : Int)]) (fun n => n ≤ l.length) (fun n => l.length - n) 0 (Nat.zero_le _) rfl (fun _ _ => rfl) (fun i j _ _ h => ?_) (fun n hn => ?_)
 ·simp at h; have h : i = j := by omega
  rw [h]
 refine VOK_lt (len25 l) rfl (VOK_lt (run_lss ..) rfl (VOK_ite rfl (fun hlt => ?_) (fun hlt => VOK_done rfl)))
 have hlt : n < l.length := by simp only [decide_eq_true_eq] at hlt; omega
 refine VOK_lt (ia25 hlt) (okVp _) (VOK_ltN (ld33 hlt) rfl rfl (VOK_lt (ia25 hlt) (okVp _) (VOK_ltN (ld33 hlt) rfl rfl ?_)))
 refine VOK_lt (run_neq ..) rfl (VOK_ite rfl (fun h => ?_) (fun h => ?_))
 ·simp at h
 refine VOK_lt (run_nes ..) rfl (VOK_ite rfl (fun h => ?_) (fun h => ?_))
 ·simp at h
 refine VOK_lt (run_neq ..) rfl (VOK_ite rfl (fun h => ?_) (fun h => ?_))
 ·simp at h
 refine VOK_lt (run_neq ..) rfl (VOK_ite rfl (fun h => ?_) (fun h => ?_))
 ·simp at h
 refine VOK_call (p13 _) rfl rfl (VOK_lt (run_not ..) rfl (VOK_ite rfl (fun h => by cases h) (fun h => VOK_lt (run_add ..) rfl (VOK_again rfl ⟨n + 1, hlt, congrArg (fun x => [AV.int .i64 x]) (inc64 (by omega)), by omega⟩))))
def b0 : List UInt8 := [97, 49, 58, 61, 49, 46, 53, 59, 32, 47, 47, 32, 110, 111]
def b1 : List UInt8 := [97, 32, 63]
def v0 : AV := .tup [.vsl 4 5 [.int .i64 1, .str [97, 49], .int .i64 0, .flt .f64 0, .int .i64 0, .int .i64 5, .str [58, 61], .int .i64 0, .flt .f64 0, .int .i64 2, .int .i64 3, .str [], .int .i64 0, .flt .f64 4609434218613702656, .int .i64 4, .int .i64 5, .str [59], .int .i64 0, .flt .f64 0, .int .i64 7], .int .i64 0, .bool true]
def v1 : AV := .tup [.nsl, .int .i64 2, .bool false]
theorem q0 : Pure Try.prog 7 [.str b0] v0 := by
 have h := p7 b0 (by decide)
 have e : wordsRes (wordsS b0) = v0 := by kernel_rfl
 rw [e] at h; exact h
theorem q1 : Pure Try.prog 7 [.str b1] v1 := by
 have h := p7 b1 (by decide)
 have e : wordsRes (wordsS b1) = v1 := by kernel_rfl
 rw [e] at h; exact h
abbrev l2 : List (FuncId × List AV × AV) := [(7, [.str b0], v0), (7, [.str b1], v1)]
theorem o2 : @OvOk (glTI 1 l2) Try.prog := ov_consI (ov_consI (ov_nilI 1 Try.prog) q1) q0
theorem e6 : @memo (glTI 1 l2) Try.prog 300 6 [] (.bool true) = true := by kernel_rfl
theorem p6 : Pure Try.prog 6 [] (.bool true) := @memo_ok (glTI 1 l2) Try.prog mo o2 300 6 [] (.bool true) e6
end Go.Proofs.Ytmhcemkembijeaa.vars
set_option maxRecDepth 100000
set_option linter.unusedVariables false
set_option linter.unusedSimpArgs false
namespace Go.Proofs.Ytmhcemkembijeaa.vars
open Go Go.Sx
theorem remI {t : TypeId} {cx cy : Bool} {k : IntKind} (x c : Int) (hc : c ≠ 0) : (XOp.bin .rem t cx cy).run Try.prog [.int k x, .int k c] = some (.int k (x.tmod c)) := rem_run (P := Try.prog) (k := k) (x := x) (c := c) hc rfl t cx cy
def encB (c : UInt8) : List AV := [.int .u8 (c.toNat : Int)]
theorem lenB1 (c : UInt8) : (encB c).length = 1 := rfl
theorem okB1 (c : UInt8) : okL (encB c) = true := rfl
def encS (s : List UInt8) : List AV := [.str s]
theorem lenS (s : List UInt8) : (encS s).length = 1 := rfl
theorem okS (s : List UInt8) : okL (encS s) = true := rfl
def piecesL : List (List UInt8) := [[97], [98, 50], [32], [55], [46], [53], [109, 115], [47, 47], [10], [58], [61], [60], [62], [59], [120, 32, 121], [49, 46, 50, 53], [49, 48, 48, 109, 115], [49, 50, 51, 52, 53, 54, 55, 56, 57, 48, 49, 50, 51, 52, 53], [126], [65], [43], [48]]
theorem pieces_len {i : Nat} (h : i < piecesL.length) : (piecesL[i]).length ≤ 15 := by
 have : piecesL.all (fun s => decide (s.length ≤ 15)) = true := by decide
 exact of_decide_eq_true (List.all_eq_true.1 this _ (List.getElem_mem h))
abbrev strs (l : List (List UInt8)) : AV := sliceOf encS 1 l
theorem len24 (l : List (List UInt8)) : (XOp.len 24).run Try.prog [strs l] = some (.int .i64 (l.length : Int)) := run_len_sl Try.underlying24 l
theorem ia24 {l : List (List UInt8)} {i : Nat} (h : i < l.length) : (XOp.iaddr 24).run Try.prog [strs l, .int .i64 (i : Int)] = some (.vptr (encL encS (l.drop i))) :=
 run_iaddr_sl (ti := (Try.prog.info? 9).get!) Try.underlying24 (by kernel_rfl) (by kernel_rfl) lenS h .i64
theorem ld9 {l : List (List UInt8)} {i : Nat} (h : i < l.length) : (XOp.load 9).run Try.prog [.vptr (encL encS (l.drop i))] = some (.str l[i]) := by
 rw [List.drop_eq_getElem_cons h]
 exact run_load_one Try.underlying9 rfl _ _
theorem okVs (l : List (List UInt8)) : okC (.vptr (encL encS l)) = true := encL_ok okS l
def c3 : VC := ⟨⟨[], []⟩, [(6, [none]), (7, [none, none, none]), (8, [none, none, none]), (9, [none])], [(0, [⟨[(7, .slx 0 0 0), (5, .slx 1 0 0), (1, 65), (6, .slx 2 0 0), (0, 64)], [], 0, 3, [], [], []⟩]), (2, [⟨[(9, .slx 0 0 0), (8, .slx 1 0 0)], [], 0, 2, [], [], []⟩])], 0, false, []⟩
def t3 : VT :=
 (.call 6 [] 66 [none]
 (.lt (.un .not) [66] 67 none
 (.ite 67
 (.done (.bool false))
 (.lt (.len 9) [64] 68 none
 (.lt (.bin .gtr 3 false true) [68, J 100] 69 none
 (.ite 69
 (.done (.bool true))
 (.lt (.len 22) [65] 70 none
 (.lt (.bin .gtr 3 false true) [70, J 60] 71 none
 (.ite 71
 (.done (.bool true))
 (.loop 72 0 [J 0, strs piecesL, .str []]
 (.cons 3
 (.lt (.len 22) [65] 75 none
 (.lt (.bin .lss 3 false false) [72, 75] 76 none
 (.ite 76
 (.lt (.iaddr 22) [65, 72] 77 none
 (.lt (.load 5) [77] 78 none
 (.lt (.conv 5 3) [78] 79 none
 (.lt (.len 24) [73] 80 none
 (.lt (.bin .rem 3 false false) [79, 80] 81 none
 (.lt (.iaddr 24) [73, 81] 82 none
 (.lt (.load 9) [82] 83 none
 (.lt (.bin .add 9 false false) [74, 83] 84 none
 (.lt (.bin .add 3 false true) [72, J 1] 85 none
 (.again 0 0 [85, 73, 84]))))))))))
 (.loop 77 0 [J 0, .vsl 2 1 [64, 74]]
 (.cons 2
 (.lt (.bin .lss 3 false true) [77, J 2] 79 none
 (.ite 79
 (.lt (.iaddr 24) [78, 77] 80 none
 (.lt (.load 9) [80] 81 none
 (.call 7 [81] 82 [none, none, none]
 (.lt (.iaddr 24) [78, 77] 85 none
 (.lt (.load 9) [85] 86 none
 (.call 8 [86] 87 [none, none, none]
 (.lt (.bin .neq 4 false false) [84, 89] 90 none
 (.ite 90
 (.done (.bool false))
 (.lt (.bin .neq 3 false false) [83, 88] 91 none
 (.ite 91
 (.done (.bool false))
 (.call 9 [82, 87] 92 [none]
 (.lt (.un .not) [92] 93 none
 (.ite 93
 (.done (.bool false))
 (.lt (.bin .add 3 false true) [77, J 1] 94 none
 (.again 1 0 [94, 78])))))))))))))))
 (.done (.bool true))))
 .nil)))))
 .nil)))))))))))
theorem okWr (r : List GWord × Nat × Bool) : okL [wds r.1, .int .i64 (r.2.1 : Int), .bool r.2.2] = true := by
 show (match okC (wds r.1) with | true => okL [.int .i64 (r.2.1 : Int), .bool r.2.2] | false => false) = true
 rw [okWds]; rfl
theorem words_len (s : List UInt8) : (wordsS s).1.length ≤ 300 := by
 have key : ∀ f p l, l.length ≤ 300 → (wordsR f s p l).1.length ≤ 300 := by
  intro f
  induction f with
  | zero => intro p l _; simp [wordsR]
  | succ f ih =>
    intro p l hl
    simp only [wordsR]
    split
    ·exact hl
    ·split
     ·simp
     ·split
      ·simp
      ·exact ih _ _ (by rw [List.length_append]; simp; omega)
 unfold wordsS
 split
 ·simp
 ·exact key _ _ _ (by simp)
theorem run_nbs (b : Bool) : (XOp.bin .neq 4 false false).run Try.prog [.bool b, .bool b] = some (.bool false) := by
 cases b <;> kernel_rfl
theorem p3 (s : List UInt8) (l : List UInt8) (x : AV) (sl : SlV encB 1 l x) : Pure Try.prog 3 [.str s, x] (.bool true) := by
 have hx := sl.ok okB1
 refine pure_shape (sh := [none, none]) (ls := [.str s, x]) (c := c3) (n := 300) (t := t3) mo ov (by rcases sl with rfl | ⟨_, rfl⟩ <;> rfl) (by show (match okC x with | true => true | false => false) = true; rw [hx]) rfl (fun Y _ => known0 _) rfl (by kernel_rfl) fun Y hf hg => ?_
 unfold t3
 refine VOK_call p6 rfl rfl (VOK_lt (run_not ..) rfl (VOK_ite rfl (fun h => by cases h) (fun _ => ?_)))
 refine VOK_lt (run_len_str str9 s) rfl (VOK_lt (run_gtr ..) rfl (VOK_ite rfl (fun _ => VOK_done rfl) (fun hs => ?_)))
 refine VOK_lt (sl.len Try.underlying22) rfl (VOK_lt (run_gtr ..) rfl (VOK_ite rfl (fun _ => VOK_done rfl) (fun hl => ?_)))
 have hs : s.length ≤ 100 := by simp only [decide_eq_false_iff_not] at hs; omega
 have hl : l.length ≤ 60 := by simp only [decide_eq_false_iff_not] at hl; omega
 refine VOK_loop (ι := Nat × List UInt8) (fun y => [.int .i64 (y.1 : Int), strs piecesL, .str y.2]) (fun y => y.1 ≤ l.length ∧ y.2.length ≤ 15 * y.1) (fun y => l.length - y.1) (0, []) ⟨Nat.zero_le _, Nat.zero_le _⟩ rfl (fun _ _ => rfl) (fun x y _ _ h => ?_) (fun y hy => ?_)
 ·simp at h; have h : x.1 = y.1 := by omega
  rw [h]
 obtain ⟨i, t⟩ := y
 obtain ⟨hi, ht⟩ := hy
 simp only at hi ht ⊢
 refine VOK_lt (sl.len Try.underlying22) rfl (VOK_lt (run_lss ..) rfl (VOK_ite rfl (fun hlt => ?_) (fun hlt => ?_)))
 ·have hlt : i < l.length := by simp only [decide_eq_true_eq] at hlt; omega
  have hia := sl.ia (P := Try.prog) (ti := (Try.prog.info? 5).get!) Try.underlying22 (by kernel_rfl) (by kernel_rfl) lenB1 hlt .i64
  rw [List.drop_eq_getElem_cons hlt] at hia
  refine VOK_lt hia (encL_ok okB1 (l[i] :: l.drop (i + 1))) (VOK_lt (run_load_one Try.underlying5 rfl _ _) rfl (VOK_lt (run_conv_ii Try.underlying5 Try.underlying3 _) rfl (VOK_lt (len24 piecesL) rfl (VOK_lt (remI _ _ (by decide)) rfl ?_))))
  have hc : l[i].toNat < 256 := l[i].toNat_lt
  have hm : l[i].toNat % 22 < piecesL.length := Nat.mod_lt _ (by decide)
  have e : (IntKind.i64.wrap (l[i].toNat : Int)).tmod ((piecesL.length : Nat) : Int) = ((l[i].toNat % 22 : Nat) : Int) := by
   rw [wrap64 (x := (l[i].toNat : Int)) (by omega) (by omega), Int.tmod_eq_emod_of_nonneg (by omega)]; rfl
  rw [e]
  have hpl := pieces_len hm
  refine VOK_lt (ia24 hm) (okVs _) (VOK_lt (ld9 hm) rfl (VOK_lt (run_cat _ _ _ _ (by omega)) rfl (VOK_lt (run_add ..) rfl (VOK_again rfl ⟨(i + 1, t ++ piecesL[l[i].toNat % 22]), ⟨hlt, ?_⟩, ?_, by simp only; omega⟩))))
  ·simp only [List.length_append]; omega
  ·exact congrArg (fun x => [AV.int .i64 x, _, _]) (inc64 (by omega))
 ·refine VOK_loop (ι := Nat) (fun k => [.int .i64 (k : Int), strs [s, t]]) (fun k => k ≤ 2) (fun k => 2 - k) 0 (Nat.zero_le _) rfl (fun _ _ => rfl) (fun i j _ _ h => ?_) (fun k hk => ?_)
  ·simp at h; have h : i = j := by omega
   rw [h]
  refine VOK_lt (run_lss ..) rfl (VOK_ite rfl (fun hlt => ?_) (fun _ => VOK_done rfl))
  have hk2 : k < [s, t].length := by simp only [decide_eq_true_eq] at hlt; simp; omega
  have hlen : ([s, t][k]).length < 9223372036854775000 := by
   rcases (by simp at hk2; omega : k = 0 ∨ k = 1) with rfl | rfl
   ·show s.length < _; omega
   ·show t.length < _; omega
  refine VOK_lt (ia24 hk2) (okVs _) (VOK_lt (ld9 hk2) rfl ?_)
  have hwl := words_len [s, t][k]
  refine VOK_call (p7 _ hlen) rfl (okWr _) (VOK_lt (ia24 hk2) (okVs _) (VOK_lt (ld9 hk2) rfl ?_))
  refine VOK_call (p8 _ hlen) rfl (okWr _) (VOK_lt (run_nbs _) rfl (VOK_ite rfl (fun h => by cases h) (fun _ => VOK_lt (run_neq ..) rfl (VOK_ite rfl (fun h => ?_) (fun _ => ?_)))))
  ·simp at h
  refine VOK_call (p9 _ (by omega)) rfl rfl (VOK_lt (run_not ..) rfl (VOK_ite rfl (fun h => by cases h) (fun _ => VOK_lt (run_add ..) rfl (VOK_again rfl ⟨k + 1, by simp at hk2; omega, ?_, ?_⟩))))
  ·exact congrArg (fun x => [AV.int .i64 x, _]) (inc64 (by omega))
  ·simp at hk2; omega
end Go.Proofs.Ytmhcemkembijeaa.vars
