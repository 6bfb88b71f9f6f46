/-
  Elements of one's own slices, read and written: what operations give.
-/
import Derived.Test.YtmhcemkembijeaaSyV
import Derived.Test.YtmhcemkembijeaaFA
import Derived.Test.YtmhcemkembijeaaSyQ
import Derived.Test.YtmhcemkembijeaaV7
set_option linter.unusedVariables false
set_option linter.unusedSimpArgs false
namespace Go.Sx
section
variable {P : Program} {t : TypeId} {ti : TypeInfo} {α : Type} {enc : α → List AV} {w : Nat}
theorem setAt_app : ∀ (a xs b c : List AV), b.length = xs.length → setAt a.length xs (a ++ (b ++ c)) = some (a ++ (xs ++ c))
 | [], [], [], c, _ => by cases c <;> rfl
 | [], x :: xs, y :: b, c, h => by
   have ih := setAt_app [] xs b c (by simpa using h)
   simp only [List.nil_append, List.length_nil, List.cons_append] at ih ⊢
   simp only [setAt, ih]
 | [], x :: xs, [], c, h => by simp at h
 | [], [], y :: b, c, h => by simp at h
 | x :: a, xs, b, c, h => by
   simp only [List.cons_append, List.length_cons, setAt, setAt_app a xs b c h]
theorem cut_at (hw : ∀ a, (enc a).length = w) (l : List α) {i : Nat} (hi : i < l.length) : ∃ a b, encL enc l = a ++ (enc l[i] ++ b) ∧ a.length = i * w ∧ ∀ x, encL enc (l.set i x) = a ++ (enc x ++ b) := by
 refine ⟨encL enc (l.take i), encL enc (l.drop (i + 1)), ?_, ?_, fun x => ?_⟩
 ·have h1 : l = l.take i ++ l[i] :: l.drop (i + 1) := by rw [List.getElem_cons_drop, List.take_append_drop]
  have h2 := congrArg (encL enc) h1
  rw [encL_append] at h2
  exact h2
 ·rw [encL_length hw, List.length_take]; congr 1; omega
 ·rw [List.set_eq_take_append_cons_drop, if_pos hi, encL_append]; rfl
theorem run_stx (hw : ∀ a, (enc a).length = w) {l : List α} {i : Nat} (hi : i < l.length) {off : Nat} {v : AV} {xs p q r : List AV} {y : α} (hc : v.cells = xs) (ho : v = .agg xs ∨ (∃ k n, v = .int k n)) (hinf : P.info? t = some ti) (hs : ti.size = xs.length) (h1 : allOne xs = true)
  (he : enc l[i] = p ++ (q ++ r)) (hp : p.length = off) (hq : q.length = xs.length) (hy : enc y = p ++ (xs ++ r)) (k : IntKind) : (XOp.stx t w off).run P [sliceOf enc w l, .int k (i : Int), v] = some (sliceOf enc w (l.set i y)) := by
 obtain ⟨a, b, e1, e2, e3⟩ := cut_at hw l hi
 obtain ⟨x0, l', rfl⟩ : ∃ x l', l = x :: l' := by cases l with | nil => simp at hi | cons x l' => exact ⟨x, l', rfl⟩
 have hset : ∃ z l'', (x0 :: l').set i y = z :: l'' ∧ l''.length = l'.length := by
  cases i with
  | zero => exact ⟨y, l', rfl, rfl⟩
  | succ i => exact ⟨x0, l'.set i y, rfl, by simp⟩
 obtain ⟨z, l'', e4, e5⟩ := hset
 have hst : evStore P (row0 (encL enc (x0 :: l'))) t (.ptr 0 (i * w + off)) v = some (.tup [], (row0 (encL enc (x0 :: l'))).set 0 (.cells (encL enc ((x0 :: l').set i y)))) := by
  have hg : (row0 (encL enc (x0 :: l'))).get 0 = some (.cells (encL enc (x0 :: l'))) := rfl
  have hsa : setAt (i * w + off) xs (encL enc (x0 :: l')) = some (encL enc ((x0 :: l').set i y)) := by
   have := setAt_app (a ++ p) xs q (r ++ b) hq
   rw [List.length_append, e2, hp] at this
   rw [e1, he, e3, hy]
   simpa [List.append_assoc] using this
  have hb : Nat.beq xs.length ti.size = true := by rw [hs]; exact Nat.beq_refl _
  rcases ho with rfl | ⟨k', n, rfl⟩
  ·simp only [evStore, hinf]
   have hc' : (AV.agg xs).cells = xs := hc
   simp only [hc', hb, h1, hg, hsa]
  ·simp only [evStore, hinf]
   simp only [hc, hb, h1, hg, hsa]
 show (match evStore P (row0 (encL enc (x0 :: l'))) t (.ptr 0 (Nat.add (Nat.mul i w) off)) v with
  | some r => match r.2.get 0 with
    | some (.cells cs') => some (AV.vsl (l'.length + 1) w cs')
    | _ => none
  | none => none) = _
 have e6 : Nat.add (Nat.mul i w) off = i * w + off := rfl
 rw [e6, hst]
 have hg2 : ∀ c : List AV, ((row0 (encL enc (x0 :: l'))).set 0 (.cells c)).get 0 = some (.cells c) := fun c => rfl
 simp only [hg2]
 rw [e4]
 show _ = some (AV.vsl (l''.length + 1) w (encL enc (z :: l'')))
 rw [e5]
theorem run_ldx1 {d : TypeDesc} (ht : P.underlying t = some d) (ha : aggB d = false) (hw : ∀ a, (enc a).length = w) {l : List α} {i : Nat} (hi : i < l.length) {off : Nat} {v : AV} {p r : List AV} (he : enc l[i] = p ++ (v :: r)) (hp : p.length = off) (k : IntKind) : (XOp.ldx t w off).run P [sliceOf enc w l, .int k (i : Int)] = some v := by
 obtain ⟨a, b, e1, e2, _⟩ := cut_at hw l hi
 obtain ⟨x0, l', rfl⟩ : ∃ x l', l = x :: l' := by cases l with | nil => simp at hi | cons x l' => exact ⟨x, l', rfl⟩
 show evLoad P (row0 (encL enc (x0 :: l'))) t (.ptr 0 (i * w + off)) = _
 unfold evLoad
 simp only [ht, ha]
 have hg : (row0 (encL enc (x0 :: l'))).get 0 = some (.cells (encL enc (x0 :: l'))) := rfl
 unfold cellsAt
 simp only [hg]
 have hd : dropA (i * w + off) (encL enc (x0 :: l')) = v :: (r ++ b) := by
  rw [dropA_eq, e1, he, ← e2, ← hp]
  rw [show a ++ (p ++ v :: r ++ b) = (a ++ p) ++ (v :: (r ++ b)) by simp [List.append_assoc]]
  rw [← List.length_append, List.drop_left]
 rw [hd]
 rfl
theorem run_inb {l : List α} {i : Nat} (hi : i < l.length) (k : IntKind) : (XOp.inb).run P [sliceOf enc w l, .int k (i : Int)] = some (.int .i64 (i : Int)) := by
 cases l with
 | nil => simp at hi
 | cons x r =>
   show (match Sx.idx (i : Int) (r.length + 1) with | some n => some (AV.int .i64 (.ofNat n)) | none => none) = _
   have hb : Nat.blt i (r.length + 1) = true := by simpa [Nat.blt_eq] using hi
   have : Sx.idx (i : Int) (r.length + 1) = some i := by
    show (match Nat.blt i (r.length + 1) with | true => some i | false => none) = some i
    rw [hb]
   rw [this]; rfl
end
end Go.Sx
set_option linter.unusedVariables false
namespace Go.Proofs.Ytmhcemkembijeaa.vars
open Go Go.Sx
def ft7 : FT := ⟨0, ⟨[(0, .slx 0 0 0)], [], 0, 1, [], [], []⟩, [(false, ⟨[(0, .tup [.slx 0 5 0, .slx 1 0 0, .slx 2 0 0])], [], 1, 3, [⟨0, 5, 0, 600, some 0⟩], [], []⟩)]⟩
end Go.Proofs.Ytmhcemkembijeaa.vars
set_option maxRecDepth 100000
set_option linter.unusedVariables false
set_option linter.unusedSimpArgs false
namespace Go.Proofs.Ytmhcemkembijeaa.vars
open Go Go.Sx
theorem callF' {P : Program} {Q : AV → Prop} {L : List (Nat → List AV → Prop)} {Y : Sy} {f : FuncId} {ft : FT} {hv vs : List AV} {n : Nat} {bs : VTs} {R : Nat → List AV → Prop} (h1 : CF P f ft vs R) (h0 : denL Y.v hv = vs) (h2 : okL vs = true) (h3 : VOKb P Q R L (Y.puts n vs) (Nat.add n ft.ent.nv) 0 bs) : VOK P Q L Y (.callF f ft hv n bs) := by
 subst h0; exact VOK_callF h1 h2 h3
def R7 (s : List UInt8) : Nat → List AV → Prop := fun _ ws => ws = [wds (wordsS s).1, .int .i64 ((wordsS s).2.1 : Int), .bool (wordsS s).2.2]
theorem okIB (l : List GWord) (n : Int) (b : Bool) : okL [wds l, .int .i64 n, .bool b] = true := by simp only [okL, okC, okWds]
def c7f : VC := ⟨⟨[], []⟩, [(10, [none]), (11, [(some 5), none, none])], [(0, [⟨[(3, .slx 0 0 0), (2, .slx 0 5 1), (0, 64)], [], 1, 2, [⟨0, 5, 1, 2, none⟩], [], []⟩])], 0, true, []⟩
def t7f : VT :=
 (.lt (.len 9) [64] 65 none
 (.lt (.bin .gtr 3 false true) [65, J 1200] 66 none
 (.ite 66
 (.done (.tup [J 0, .nsl, J 0, .bool false]))
 (.call 10 [64] 67 [none]
 (.loop 68 0 [67, .nsl]
 (.cons 2
 (.lt (.len 9) [64] 70 none
 (.lt (.bin .lss 3 false false) [68, 70] 71 none
 (.ite 71
 (.lt (.slc 9 true false) [64, 68] 72 none
 (.call 11 [72] 73 [(some 5), none, none]
 (.lt (.un .not) [79] 80 none
 (.ite 80
 (.done (.tup [J 0, .nsl, 68, .bool false]))
 (.lt (.len 25) [69] 81 none
 (.lt (.bin .geq 3 false true) [81, J 300] 82 none
 (.ite 82
 (.done (.tup [J 0, .nsl, 68, .bool false]))
 (.lt (.app 5 48) [69, .agg [73, 74, 75, 76, 68]] 83 none
 (.lt (.bin .add 3 false false) [68, 78] 84 none
 (.lt (.slc 9 true false) [64, 84] 85 none
 (.call 10 [85] 86 [none]
 (.lt (.bin .add 3 false false) [84, 86] 87 none
 (.again 0 0 [87, 83])))))))))))))
 (.done (.tup [J 0, 69, J 0, .bool true])))))
 .nil))))))
theorem p7f (s : List UInt8) (hs : s.length < 9223372036854775000) : CF Try.prog 7 ft7 [.str s] (R7 s) := by
 refine cf_tree (c := c7f) (n := 300) (t := t7f) mo ov rfl (fun Y _ => known0 _) (by kernel_rfl) fun Y hf hg => ?_
 unfold t7f
 refine VOK_lt (run_len_str str9 s) rfl (VOK_lt (run_gtr ..) rfl (VOK_ite rfl (fun hl => VOK_fin (by first | rfl | exact okIB _ _ _) ?_) (fun hl => ?_)))
 ·have hl : 1200 < s.length := by simp only [decide_eq_true_eq] at hl; omega
  show _ = _; unfold wordsS
  rw [if_pos hl]; rfl
 have hl : ¬ 1200 < s.length := by simp only [decide_eq_false_iff_not] at hl; omega
 have hb0 := bl_le false s
 refine VOK_call (p10 s (by omega)) rfl rfl ?_
 refine VOK_loop (ι := Nat × List GWord) (fun x => [.int .i64 (x.1 : Int), wds x.2]) (fun x => x.1 ≤ s.length ∧ ∃ f q, x.1 = q + bl false (s.drop q) ∧ s.length < q + f ∧ wordsS s = wordsR f s q x.2) (fun x => s.length - x.1) (bl false s, [])
  ⟨hb0, s.length + 1, 0, by simp, by omega, by unfold wordsS; rw [if_neg hl]⟩ rfl (fun x _ => okIC (okWds x.2)) (fun x y _ _ h => ?_) (fun x hx => ?_)
 ·simp at h; have h : x.1 = y.1 := by omega
  rw [h]
 obtain ⟨p, l⟩ := x
 obtain ⟨hp, f, q, hq, hf1, hw⟩ := hx
 simp only at hp hq hw ⊢
 obtain ⟨f, rfl⟩ : ∃ f', f = f' + 1 := by
  rcases f with _ | f
  ·exfalso; have := bl_le false (s.drop q); rw [List.length_drop] at this; omega
  ·exact ⟨f, rfl⟩
 simp only [wordsR, ← hq] at hw
 refine VOK_lt (run_len_str str9 s) rfl (VOK_lt (run_lss ..) rfl (VOK_ite rfl (fun hlt => ?_) (fun hlt => VOK_fin (by first | rfl | exact okIB _ _ _) ?_)))
 ·have hlt : p < s.length := by simp only [decide_eq_true_eq] at hlt; omega
  rw [if_neg (by omega)] at hw
  have hd := List.drop_eq_getElem_cons hlt
  have h11 := p11 s[p] (s.drop (p + 1)) (by rw [← hd, List.length_drop]; omega)
  rw [← hd] at h11
  refine VOK_lt (run_slc10_str str9 s .i64 p hp) rfl ?_
  rcases ho : oneS (s.drop p) with _ | ⟨w, n⟩
  ·rw [ho] at h11 hw
   refine VOK_call h11 rfl rfl (VOK_lt (run_not ..) rfl (VOK_ite rfl (fun _ => VOK_fin (by first | rfl | exact okIB _ _ _) ?_) (fun h => by cases h)))
   show _ = _; rw [hw]; rfl
  ·rw [ho] at h11 hw
   have hn := oneS_len s[p] (s.drop (p + 1)) (by rw [← hd]; exact ho)
   rw [← hd, List.length_drop] at hn
   refine VOK_call h11 rfl rfl (VOK_lt (run_not ..) rfl (VOK_ite rfl (fun h => by cases h) (fun _ => VOK_lt (run_len_sl Try.underlying25 l) rfl (VOK_lt (run_geq ..) rfl (VOK_ite rfl (fun h => VOK_fin (by first | rfl | exact okIB _ _ _) ?_) (fun h => ?_))))))
   ·have h : 300 ≤ l.length := by simp only [decide_eq_true_eq] at h; omega
    simp only [if_pos h] at hw
    show _ = _; rw [hw]; rfl
   ·have h : ¬ 300 ≤ l.length := by simp only [decide_eq_false_iff_not] at h; omega
    simp only [if_neg h] at hw
    have hb := bl_le false (s.drop (p + n))
    rw [List.length_drop] at hb
    refine VOK_lt (run_app_sl (enc := encW) lenW (by decide) (by decide) l { w with place := (p : Int) } (by omega)) (okWds _) (VOK_lt (run_add ..) rfl ?_)
    rw [add64 (by omega)]
    refine VOK_lt (run_slc10_str str9 s .i64 (p + n) (by omega)) rfl (VOK_call (p10 _ (by rw [List.length_drop]; omega)) rfl rfl (VOK_lt (run_add ..) rfl ?_))
    rw [add64 (by omega)]
    exact VOK_again rfl ⟨(p + n + bl false (s.drop (p + n)), l ++ [{ w with place := (p : Int) }]), ⟨by omega, f, p + n, rfl, by omega, hw⟩, rfl, by simp only; omega⟩
 ·have hlt : ¬ p < s.length := by simp only [decide_eq_false_iff_not] at hlt; omega
  rw [if_pos (by omega)] at hw
  show _ = _; rw [hw]; rfl
end Go.Proofs.Ytmhcemkembijeaa.vars
set_option maxRecDepth 100000
set_option linter.unusedVariables false
set_option linter.unusedSimpArgs false
namespace Go.Proofs.Ytmhcemkembijeaa.vars
open Go Go.Sx
def ahead (r : List UInt8) : List UInt8 := [47, 47] ++ r ++ [10, 9, 32]
theorem ahead_len (r : List UInt8) : (ahead r).length = r.length + 5 := by simp [ahead]
theorem bl_remark : ∀ (r t : List UInt8), (∀ c ∈ r, c ≠ 10) → bl true (r ++ 10 :: t) = r.length + 1 + bl false t
 | [], t, _ => by
   show 1 + bl (notNl 10) t = _
   have : notNl 10 = false := by
    cases h : notNl 10 with
    | false => rfl
    | true => exact absurd rfl ((nl_iff 10).1 h)
   rw [this]; simp
 | c :: r, t, h => by
   have hc := (nl_iff c).2 (h c (List.mem_cons_self ..))
   have ih := bl_remark r t fun x hx => h x (List.mem_cons_of_mem _ hx)
   simp only [List.cons_append, bl, hc, ih, List.length_cons]; omega
theorem bl_ahead (r s : List UInt8) (h : ∀ c ∈ r, c ≠ 10) : bl false (ahead r ++ s) = (ahead r).length + bl false s := by
 have e : ahead r ++ s = 47 :: 47 :: (r ++ 10 :: (9 :: 32 :: s)) := by simp [ahead]
 have h47 : notNl 47 = true := (nl_iff 47).2 (by decide)
 have h1 : bl false (47 :: 47 :: (r ++ 10 :: (9 :: 32 :: s))) = 1 + bl true (47 :: (r ++ 10 :: (9 :: 32 :: s))) := by
  show (if isB 47 then _ else _) = _
  rw [if_neg (by decide), if_pos ⟨rfl, rfl⟩]
 have h2 : bl true (47 :: (r ++ 10 :: (9 :: 32 :: s))) = 1 + bl true (r ++ 10 :: (9 :: 32 :: s)) := by
  show 1 + bl (notNl 47) _ = _
  rw [h47]
 have h3 : bl false (9 :: 32 :: s) = 1 + (1 + bl false s) := by
  show (if isB 9 then 1 + bl false (32 :: s) else _) = _
  rw [if_pos (by decide)]
  show 1 + (if isB 32 then 1 + bl false s else _) = _
  rw [if_pos (by decide)]
 rw [e, h1, h2, bl_remark r _ h, h3, ahead_len]; omega
def further (n : Nat) (w : GWord) : GWord := { w with place := w.place + n }
def furtherR (n : Nat) (r : List GWord × Nat × Bool) : List GWord × Nat × Bool := (r.1.map (further n), if r.2.2 then r.2.1 else r.2.1 + n, r.2.2)
theorem wordsR_further (a s : List UInt8) : ∀ (f F q : Nat) (l : List GWord), q ≤ s.length → s.length < q + f → s.length < q + F → wordsR F (a ++ s) (a.length + q) (l.map (further a.length)) = furtherR a.length (wordsR f s q l)
 | 0, F, q, l, hq, hf, hF => by omega
 | f + 1, 0, q, l, hq, hf, hF => by omega
 | f + 1, F + 1, q, l, hq, hf, hF => by
   have hd : ∀ k, (a ++ s).drop (a.length + k) = s.drop k := fun k => by rw [List.drop_append, List.drop_eq_nil_of_le (by omega), List.nil_append]; congr 1; omega
   have hb := bl_le false (s.drop q)
   rw [List.length_drop] at hb
   simp only [wordsR, hd, List.length_append]
   by_cases h1 : s.length ≤ q + bl false (s.drop q)
   ·rw [if_pos (by omega), if_pos h1]; rfl
   rw [if_neg (by omega), if_neg h1]
   have e : a.length + q + bl false (s.drop q) = a.length + (q + bl false (s.drop q)) := by omega
   rw [e, hd]
   obtain ⟨p, hp⟩ : ∃ p, p = q + bl false (s.drop q) := ⟨_, rfl⟩
   rw [← hp] at h1 ⊢
   rcases ho : oneS (s.drop p) with _ | ⟨w, n⟩
   ·simp only [furtherR]; rw [Nat.add_comm]; rfl
   ·have hd2 := List.drop_eq_getElem_cons (show p < s.length by omega)
    have hn := oneS_len s[p] (s.drop (p + 1)) (by rw [← hd2]; exact ho)
    rw [← hd2, List.length_drop] at hn
    simp only [List.length_map]
    by_cases h3 : 300 ≤ l.length
    ·rw [if_pos h3, if_pos h3]; simp only [furtherR]; rw [Nat.add_comm]; rfl
    ·rw [if_neg h3, if_neg h3]
     have ih := wordsR_further a s f F (p + n) (l ++ [{ w with place := ((p : Nat) : Int) }]) (by omega) (by omega) (by omega)
     rw [← ih, List.map_append]
     rw [show a.length + p + n = a.length + (p + n) by omega]
     congr 2
     simp only [List.map_cons, List.map_nil, further]
     congr 2
     omega
theorem wordsS_ahead (r s : List UInt8) (h : ∀ c ∈ r, c ≠ 10) (hs : s.length ≤ 100) (hr : r.length ≤ 30) : wordsS (ahead r ++ s) = furtherR (ahead r).length (wordsS s) := by
 unfold wordsS
 have hl := ahead_len r
 rw [if_neg (by rw [List.length_append]; omega), if_neg (by omega)]
 have e := wordsR_further (ahead r) s (s.length + 1) ((ahead r ++ s).length + 1) 0 [] (Nat.zero_le _) (by omega) (by rw [List.length_append]; omega)
 rw [← e]
 refine wordsR_skip _ _ _ _ _ ?_
 rw [List.drop_zero, bl_ahead r s h, Nat.add_zero, List.drop_left]; omega
def c5 : VC := ⟨⟨[], []⟩, [(6, [none]), (9, [none])], [(0, [⟨[(5, .slx 0 0 0), (1, 65), (0, 64)], [], 0, 1, [], [], []⟩]), (2, [⟨[(13, .slx 0 0 0), (12, 87), (6, .slx 0 5 1), (9, .ptx 1 83 5 0)], [], 2, 2, [⟨0, 5, 1, 6, none⟩], [], [(1, 83)]⟩])], 0, true, [(7, ft7)]⟩
def t5 : VT :=
 (.call 6 [] 66 [none]
 (.lt (.un .not) [66] 67 none
 (.ite 67
 (.done (.bool false))
 (.lt (.len 9) [64] 68 none
 (.lt (.bin .gtr 3 false true) [68, J 100] 69 none
 (.ite 69
 (.done (.bool true))
 (.lt (.len 9) [65] 70 none
 (.lt (.bin .gtr 3 false true) [70, J 30] 71 none
 (.ite 71
 (.done (.bool true))
 (.loop 72 0 [J 0]
 (.cons 1
 (.lt (.len 9) [65] 73 none
 (.lt (.bin .lss 3 false false) [72, 73] 74 none
 (.ite 74
 (.lt (.idx 9) [65, 72] 75 none
 (.lt (.bin .eql 5 false true) [75, .int .u8 10] 76 none
 (.ite 76
 (.done (.bool true))
 (.lt (.bin .add 3 false true) [72, J 1] 77 none
 (.again 0 0 [77])))))
 (.callF 7 ft7 [64] 75
 (.cons 3
 (.lt (.bin .add 9 true false) [.str [47, 47], 65] 79 none
 (.lt (.bin .add 9 false true) [79, .str [10, 9, 32]] 80 none
 (.lt (.bin .add 9 false false) [80, 64] 81 none
 (.callF 7 ft7 [81] 82
 (.cons 3
 (.lt (.len 9) [65] 86 none
 (.lt (.bin .add 3 false true) [86, J 5] 87 none
 (.lt (.bin .neq 4 false false) [78, 85] 88 none
 (.ite 88
 (.done (.bool false))
 (.lt (.un .not) [78] 89 none
 (.ite 89
 (.lt (.bin .add 3 false false) [77, 87] 90 none
 (.lt (.bin .neq 3 false false) [84, 90] 91 none
 (.ite 91
 (.done (.bool false))
 (.lt (.len 25) [76] 92 none
 (.lt (.len 25) [83] 93 none
 (.lt (.bin .neq 3 false false) [92, 93] 94 none
 (.ite 94
 (.done (.bool false))
 (.loop 95 0 [J 0, 76]
 (.cons 2
 (.lt (.len 25) [96] 97 none
 (.lt (.bin .lss 3 false false) [95, 97] 98 none
 (.ite 98
 (.lt .inb [96, 95] 99 none
 (.lt (.ldx 3 5 4) [96, 99] 100 none
 (.lt (.bin .add 3 false false) [100, 87] 101 none
 (.lt .inb [96, 95] 102 none
 (.lt (.stx 3 5 4) [96, 102, 101] 103 none
 (.lt (.bin .add 3 false true) [95, J 1] 104 none
 (.chk (.same 96 103)
 (.again 1 0 [104, 103]))))))))
 (.call 9 [96, 83] 99 [none]
 (.done (99))))))
 .nil)))))))))
 (.lt (.len 25) [76] 90 none
 (.lt (.len 25) [83] 91 none
 (.lt (.bin .neq 3 false false) [90, 91] 92 none
 (.ite 92
 (.done (.bool false))
 (.loop 93 0 [J 0, 76]
 (.cons 2
 (.lt (.len 25) [94] 95 none
 (.lt (.bin .lss 3 false false) [93, 95] 96 none
 (.ite 96
 (.lt .inb [94, 93] 97 none
 (.lt (.ldx 3 5 4) [94, 97] 98 none
 (.lt (.bin .add 3 false false) [98, 87] 99 none
 (.lt .inb [94, 93] 100 none
 (.lt (.stx 3 5 4) [94, 100, 99] 101 none
 (.lt (.bin .add 3 false true) [93, J 1] 102 none
 (.chk (.same 94 101)
 (.again 1 0 [102, 101]))))))))
 (.call 9 [94, 83] 97 [none]
 (.done (97))))))
 .nil))))))))))))
 .nil)))))
 .nil)))))
 .nil)))))))))))
theorem stx_at (l : List GWord) {i : Nat} (hi : i < l.length) (n : Int) : (XOp.stx 3 5 4).run Try.prog [wds l, .int .i64 (i : Int), .int .i64 n] = some (wds (l.set i { l[i] with place := n })) :=
 run_stx (ti := (Try.prog.info? 3).get!) lenW hi (p := [.int .i64 l[i].kind, .str l[i].s, .int .i64 l[i].n, .flt .f64 l[i].f]) (q := [.int .i64 l[i].place]) (r := []) (xs := [.int .i64 n]) rfl (.inr ⟨_, _, rfl⟩) (by kernel_rfl) (by kernel_rfl) rfl rfl rfl rfl rfl .i64
theorem ldx_at (l : List GWord) {i : Nat} (hi : i < l.length) : (XOp.ldx 3 5 4).run Try.prog [wds l, .int .i64 (i : Int)] = some (.int .i64 l[i].place) :=
 run_ldx1 Try.underlying3 rfl lenW hi (p := [.int .i64 l[i].kind, .str l[i].s, .int .i64 l[i].n, .flt .f64 l[i].f]) (r := []) rfl rfl .i64
theorem same_ok {Y : Sy} {i j : Nat} {l l' : List GWord} (h1 : Y.v i = some (wds l)) (h2 : Y.v j = some (wds l')) (h : l.length = l'.length) : (Chk.same i j).ok Y := by
 cases l with
 | nil =>
   cases l' with
   | nil => exact .inl ⟨h1, h2⟩
   | cons a r => simp at h
 | cons a r =>
   cases l' with
   | nil => simp at h
   | cons b q =>
     have e : r.length = q.length := by simpa using h
     exact .inr ⟨r.length + 1, 5, _, _, h1, by rw [h2]; show some (AV.vsl (q.length + 1) 5 _) = _; rw [e]⟩
def some1 (n : Nat) (l : List GWord) (i : Nat) : List GWord := (l.take i).map (further n) ++ l.drop i
theorem some1_len (n : Nat) (l : List GWord) (i : Nat) : (some1 n l i).length = l.length := by simp only [some1, List.length_append, List.length_map, List.length_take, List.length_drop]; omega
theorem some1_at (n : Nat) (l : List GWord) {i : Nat} (h : i < l.length) : (some1 n l i)[i]'(by rw [some1_len]; exact h) = l[i] := by
 unfold some1
 rw [List.getElem_append_right (by simp only [List.length_map, List.length_take]; omega)]
 simp only [List.length_map, List.length_take, List.getElem_drop]
 congr 1; omega
theorem some1_set (n : Nat) (l : List GWord) {i : Nat} (h : i < l.length) : (some1 n l i).set i (further n l[i]) = some1 n l (i + 1) := by
 unfold some1
 have hl : ((l.take i).map (further n)).length = i := by simp only [List.length_map, List.length_take]; omega
 rw [List.set_append_right _ _ (by omega), hl, Nat.sub_self, List.drop_eq_getElem_cons h, List.set_cons_zero, List.take_succ_eq_append_getElem h, List.map_append, List.append_assoc]
 rfl
theorem len25' (l : List GWord) : (XOp.len 25).run Try.prog [wds l] = some (.int .i64 (l.length : Int)) := run_len_sl Try.underlying25 l
theorem add_c {x y : Int} {t : TypeId} {cx cy : Bool} (h1 : -9223372036854775807 ≤ x + y) (h2 : x + y ≤ 9223372036854775807) : (XOp.bin .add t cx cy).run Try.prog [.int .i64 x, .int .i64 y] = some (.int .i64 (x + y)) := by
 rw [run_add, wrap64 (by omega) (by omega)]
theorem wordsR_place (s : List UInt8) : ∀ (f q : Nat) (l : List GWord), (∀ w ∈ l, 0 ≤ w.place ∧ w.place ≤ s.length) → (∀ w ∈ (wordsR f s q l).1, 0 ≤ w.place ∧ w.place ≤ s.length) ∧ ((wordsR f s q l).2.1 ≤ s.length)
 | 0, q, l, h => ⟨fun w hw => (List.not_mem_nil hw).elim, Nat.zero_le _⟩
 | f + 1, q, l, h => by
   simp only [wordsR]
   by_cases h1 : s.length ≤ q + bl false (s.drop q)
   ·rw [if_pos h1]; exact ⟨h, Nat.zero_le _⟩
   rw [if_neg h1]
   rcases ho : oneS (s.drop (q + bl false (s.drop q))) with _ | ⟨w, n⟩
   ·exact ⟨fun w hw => (List.not_mem_nil hw).elim, by simp only; omega⟩
   ·simp only
    by_cases h3 : 300 ≤ l.length
    ·rw [if_pos h3]; exact ⟨fun w hw => (List.not_mem_nil hw).elim, by simp only; omega⟩
    ·rw [if_neg h3]
     refine wordsR_place s f _ _ fun x hx => ?_
     rcases List.mem_append.1 hx with hx | hx
     ·exact h x hx
     ·cases List.mem_singleton.1 hx
      simp only; omega
theorem wordsS_place (s : List UInt8) : (∀ w ∈ (wordsS s).1, 0 ≤ w.place ∧ w.place ≤ s.length) ∧ (wordsS s).2.1 ≤ s.length := by
 unfold wordsS
 split
 ·exact ⟨fun w hw => (List.not_mem_nil hw).elim, Nat.zero_le _⟩
 ·exact wordsR_place s _ _ _ fun w hw => (List.not_mem_nil hw).elim
section
variable {Q : AV → Prop} {L : List (Nat → List AV → Prop)} {Y : Sy}
theorem VOK_iteF {i : Nat} {a b : VT} (h : Y.v i = some (.bool false)) (h2 : VOK Try.prog Q L Y b) : VOK Try.prog Q L Y (.ite i a b) := VOK_ite h (fun h => by cases h) (fun _ => h2)
theorem VOK_iteT {i : Nat} {a b : VT} (h : Y.v i = some (.bool true)) (h2 : VOK Try.prog Q L Y a) : VOK Try.prog Q L Y (.ite i a b) := VOK_ite h (fun _ => h2) (fun h => by cases h)
end
theorem p5 (s r : List UInt8) (hs0 : s.length ≤ maxLen) (hr0 : r.length ≤ maxLen) : Pure Try.prog 5 [.str s, .str r] (.bool true) := by
 refine pure_shape (sh := [none, none]) (ls := [.str s, .str r]) (c := c5) (n := 300) (t := t5) mo ov rfl rfl rfl (fun Y _ => known0 _) rfl (by kernel_rfl) fun Y hf hg => ?_
 unfold t5
 refine VOK_call p6 rfl rfl (VOK_lt (run_not ..) rfl (VOK_ite rfl (fun h => by cases h) (fun _ => ?_)))
 refine VOK_lt (run_len_str str9 s) rfl (VOK_lt (run_gtr ..) rfl (VOK_ite rfl (fun _ => VOK_done rfl) (fun hs => ?_)))
 refine VOK_lt (run_len_str str9 r) rfl (VOK_lt (run_gtr ..) rfl (VOK_ite rfl (fun _ => VOK_done rfl) (fun hr => ?_)))
 have hs : s.length ≤ 100 := by simp only [decide_eq_false_iff_not] at hs; omega
 have hr : r.length ≤ 30 := by simp only [decide_eq_false_iff_not] at hr; omega
 refine VOK_loop (ι := Nat) (fun i => [.int .i64 (i : Int)]) (fun i => i ≤ r.length ∧ ∀ c ∈ r.take i, c ≠ 10) (fun i => r.length - i) 0 ⟨Nat.zero_le _, fun c hc => by simp at hc⟩ rfl (fun _ _ => rfl) (fun i j _ _ h => ?_) (fun i hi => ?_)
 ·simp at h; have h : i = j := by omega
  rw [h]
 obtain ⟨hi, hno⟩ := hi
 refine VOK_lt (run_len_str str9 r) rfl (VOK_lt (run_lss ..) rfl (VOK_ite rfl (fun hlt => ?_) (fun hlt => ?_)))
 ·have hlt : i < r.length := by simp only [decide_eq_true_eq] at hlt; omega
  refine VOK_lt (run_idx_str str9 r .i64 i hlt) rfl (VOK_lt (run_eql ..) rfl (VOK_ite rfl (fun _ => VOK_done rfl) (fun h10 => ?_)))
  have h10 : r[i] ≠ 10 := by
   intro e
   simp only [decide_eq_false_iff_not] at h10
   exact h10 (by rw [e]; rfl)
  refine VOK_lt (add_c (by omega) (by omega)) rfl (VOK_again rfl ⟨i + 1, ⟨hlt, fun c hc => ?_⟩, rfl, by omega⟩)
  rw [List.take_succ_eq_append_getElem hlt] at hc
  rcases List.mem_append.1 hc with hc | hc
  ·exact hno c hc
  ·cases List.mem_singleton.1 hc; exact h10
 have hi : i = r.length := by simp only [decide_eq_false_iff_not] at hlt; omega
 subst hi
 rw [List.take_length] at hno
 refine callF' (p7f s (by omega)) rfl rfl ⟨?_, trivial⟩
 rintro ws rfl
 have hal := ahead_len r
 refine VOK_lt (run_cat _ _ _ _ (by simp; omega)) rfl (VOK_lt (run_cat _ _ _ _ (by simp; omega)) rfl (VOK_lt (run_cat _ _ _ _ (by simp; omega)) rfl ?_))
 have hT : [47, 47] ++ r ++ [10, 9, 32] ++ s = ahead r ++ s := rfl
 rw [hT]
 refine callF' (p7f (ahead r ++ s) (by rw [List.length_append]; omega)) rfl rfl ⟨?_, trivial⟩
 rintro ws rfl
 rw [wordsS_ahead r s hno hs hr]
 obtain ⟨hpl, hat⟩ := wordsS_place s
 have hwl := words_len s
 obtain ⟨⟨A, n, p⟩, hw⟩ : ∃ x, x = wordsS s := ⟨_, rfl⟩
 rw [← hw] at hpl hat hwl ⊢
 simp only [furtherR, hal] at hpl hat hwl ⊢
 refine VOK_lt (run_len_str str9 r) rfl (VOK_lt (add_c (by omega) (by omega)) rfl (VOK_lt (run_nbs _) rfl (VOK_iteF rfl ?_)))
 cases p with
 | false =>
   refine VOK_lt (run_not ..) rfl (VOK_iteT rfl (VOK_lt (add_c (by omega) (by omega)) rfl (VOK_lt (run_neq ..) rfl (VOK_ite rfl (fun h => ?_) (fun _ => ?_)))))
   ·exfalso; simp at h
   refine VOK_lt (len25' A) rfl (VOK_lt (len25' _) rfl (VOK_lt (run_neq ..) rfl (VOK_ite rfl (fun h => ?_) (fun _ => ?_))))
   ·exfalso; simp at h
   refine VOK_loop (ι := Nat) (fun i => [.int .i64 (i : Int), wds (some1 (r.length + 5) A i)]) (fun i => i ≤ A.length) (fun i => A.length - i) 0 (Nat.zero_le _) (by simp only [some1, List.take_zero, List.map_nil, List.nil_append, List.drop_zero]; rfl) (fun i _ => by simp only [okL, okC, okWds]) (fun i j _ _ h => by simp at h; omega) (fun i hi => ?_)
   have hl1 := some1_len (r.length + 5) A i
   refine VOK_lt (len25' _) rfl (VOK_lt (run_lss ..) rfl (VOK_ite rfl (fun hlt => ?_) (fun hlt => ?_)))
   ·have hlt : i < A.length := by simp only [decide_eq_true_eq] at hlt; omega
    have hld := ldx_at (some1 (r.length + 5) A i) (i := i) (by omega)
    have hst := stx_at (some1 (r.length + 5) A i) (i := i) (by omega) (A[i].place + (r.length + 5 : Nat))
    rw [some1_at _ _ hlt] at hld hst
    have e : some1 (r.length + 5) A (i + 1) = (some1 (r.length + 5) A i).set i { A[i] with place := A[i].place + ((r.length + 5 : Nat) : Int) } := (some1_set (r.length + 5) A hlt).symm
    rw [← e] at hst
    have hp := hpl _ (List.getElem_mem hlt)
    refine VOK_lt (run_inb (i := i) (by omega) .i64) rfl (VOK_lt hld rfl (VOK_lt (r := .int .i64 (A[i].place + ((r.length + 5 : Nat) : Int))) ?_ rfl (VOK_lt (run_inb (i := i) (by omega) .i64) rfl (VOK_lt hst (okWds _) (VOK_lt (add_c (by omega) (by omega)) rfl (VOK_chk (same_ok rfl rfl (by rw [some1_len, some1_len])) (VOK_again rfl ⟨i + 1, hlt, rfl, by omega⟩)))))))
    exact add_c (by omega) (by omega)
   ·have hi : i = A.length := by simp only [decide_eq_false_iff_not] at hlt; omega
    subst hi
    have e : some1 (r.length + 5) A A.length = A.map (further (r.length + 5)) := by simp [some1]
    rw [e]
    exact VOK_call (p9 _ (by rw [List.length_map]; omega)) rfl rfl (VOK_done rfl)
 | true =>
   refine VOK_lt (run_not ..) rfl (VOK_iteF rfl ?_)
   refine VOK_lt (len25' A) rfl (VOK_lt (len25' _) rfl (VOK_lt (run_neq ..) rfl (VOK_ite rfl (fun h => ?_) (fun _ => ?_))))
   ·exfalso; simp at h
   refine VOK_loop (ι := Nat) (fun i => [.int .i64 (i : Int), wds (some1 (r.length + 5) A i)]) (fun i => i ≤ A.length) (fun i => A.length - i) 0 (Nat.zero_le _) (by simp only [some1, List.take_zero, List.map_nil, List.nil_append, List.drop_zero]; rfl) (fun i _ => by simp only [okL, okC, okWds]) (fun i j _ _ h => by simp at h; omega) (fun i hi => ?_)
   have hl1 := some1_len (r.length + 5) A i
   refine VOK_lt (len25' _) rfl (VOK_lt (run_lss ..) rfl (VOK_ite rfl (fun hlt => ?_) (fun hlt => ?_)))
   ·have hlt : i < A.length := by simp only [decide_eq_true_eq] at hlt; omega
    have hld := ldx_at (some1 (r.length + 5) A i) (i := i) (by omega)
    have hst := stx_at (some1 (r.length + 5) A i) (i := i) (by omega) (A[i].place + (r.length + 5 : Nat))
    rw [some1_at _ _ hlt] at hld hst
    have e : some1 (r.length + 5) A (i + 1) = (some1 (r.length + 5) A i).set i { A[i] with place := A[i].place + ((r.length + 5 : Nat) : Int) } := (some1_set (r.length + 5) A hlt).symm
    rw [← e] at hst
    have hp := hpl _ (List.getElem_mem hlt)
    refine VOK_lt (run_inb (i := i) (by omega) .i64) rfl (VOK_lt hld rfl (VOK_lt (r := .int .i64 (A[i].place + ((r.length + 5 : Nat) : Int))) ?_ rfl (VOK_lt (run_inb (i := i) (by omega) .i64) rfl (VOK_lt hst (okWds _) (VOK_lt (add_c (by omega) (by omega)) rfl (VOK_chk (same_ok rfl rfl (by rw [some1_len, some1_len])) (VOK_again rfl ⟨i + 1, hlt, rfl, by omega⟩)))))))
    exact add_c (by omega) (by omega)
   ·have hi : i = A.length := by simp only [decide_eq_false_iff_not] at hlt; omega
    subst hi
    have e : some1 (r.length + 5) A A.length = A.map (further (r.length + 5)) := by simp [some1]
    rw [e]
    exact VOK_call (p9 _ (by rw [List.length_map]; omega)) rfl rfl (VOK_done rfl)
end Go.Proofs.Ytmhcemkembijeaa.vars
