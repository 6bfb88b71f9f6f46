/-
  Instructions of expressions and statements.
-/
import Derived.Test.YtjconanknjgpnaaV5
set_option maxRecDepth 100000
set_option linter.unusedVariables false
set_option linter.unusedSimpArgs false
namespace Go.Proofs.Ytjconanknjgpnaa.vars
open Go Go.Sx
structure GI where
 op : Int
 kd : Int
 ad : Int
 n : Int
 vk : Int
 vi : Int
 vf : Nat
def encG (i : GI) : List AV := [.int .i64 i.op, .int .i64 i.kd, .int .i64 i.ad, .int .i64 i.n, .int .i64 i.vk, .int .i64 i.vi, .flt .f64 i.vf]
theorem lenG (i : GI) : (encG i).length = 7 := rfl
theorem okG (i : GI) : okL (encG i) = true := rfl
abbrev insts (l : List GI) : AV := sliceOf encG 7 l
theorem okI (l : List GI) : okC (insts l) = true := sliceOf_ok okG l
def ins (op kd ad n : Int) : GI := ⟨op, kd, ad, n, 0, 0, 0⟩
def kd0 : List GX → Int
 | [] => 0
 | a :: _ => a.kd
def instE (op kd ad n vk vi : Int) (vf : Nat) (args : List GX) : GI :=
 if op = 1 then ⟨1, vk, 0, 0, vk, vi, vf⟩ else if op = 2 then ins 2 0 ad 0 else if op = 3 then ins 3 0 ad n else if op = 17 then ins 17 kd 0 (kd0 args) else ins op (kd0 args) 0 0
mutual
def genE : GX → List GI
 | .mk op kd nm fd ad n vk vi vf args => genEs args ++ [instE op kd ad n vk vi vf args]
def genEs : List GX → List GI
 | [] => []
 | a :: r => genE a ++ genEs r
end
theorem genEs_app : ∀ a b : List GX, genEs (a ++ b) = genEs a ++ genEs b
 | [], b => rfl
 | x :: a, b => by simp only [List.cons_append, genEs, genEs_app a b, List.append_assoc]
theorem genEs_len {d : Nat} {M : Nat} : ∀ {l : List GX}, (∀ x ∈ l, (genE x).length ≤ M) → (genEs l).length ≤ l.length * M
 | [], _ => by simp [genEs]
 | a :: r, h => by
   have h1 := h a (List.mem_cons_self ..)
   have h2 := genEs_len (d := d) (M := M) (l := r) fun x hx => h x (List.mem_cons_of_mem _ hx)
   simp only [genEs, List.length_append, List.length_cons, Nat.add_mul, Nat.one_mul]; omega
theorem genE_len : ∀ {d : Nat} {x : GX}, TX d x → (genE x).length + 1 ≤ 2 ^ d
 | 0, _, h => h.elim
 | d + 1, .mk op kd nm fd ad n vk vi vf args, ⟨h1, _, _, _, _, h6⟩ => by
   have hl : args.length ≤ 2 := by unfold Ari at h1; omega
   have hp : 1 ≤ 2 ^ d := Nat.one_le_two_pow
   have := genEs_len (d := d) (M := 2 ^ d - 1) (l := args) fun x hx => by have := genE_len (h6 x hx); omega
   have h2 : args.length * (2 ^ d - 1) ≤ 2 * (2 ^ d - 1) := Nat.mul_le_mul_right _ hl
   simp only [genE, List.length_append, List.length_cons, List.length_nil, Nat.pow_succ]; omega
def genTo : GX → List GI
 | .mk op _ _ _ ad n _ _ _ args => if op = 3 then genEs args ++ [ins 19 0 ad n] else [ins 18 0 ad 0]
mutual
def genS : Nat → GS → List GI
 | b, .mk op to e thn els nm kd ad args =>
   if op = 1 then genE e ++ genTo to
   else if op = 2 then
    let c := genE e
    let t := genSs (b + c.length + 1) thn
    if els = [] then c ++ [ins 21 0 ((b + c.length + 1 + t.length : Nat) : Int) 0] ++ t
    else
     let q := genSs (b + c.length + 1 + t.length + 1) els
     c ++ [ins 21 0 ((b + c.length + 1 + t.length + 1 : Nat) : Int) 0] ++ t ++ [ins 20 0 ((b + c.length + 1 + t.length + 1 + q.length : Nat) : Int) 0] ++ q
   else if op = 3 then
    let c := genE e
    let t := genSs (b + c.length + 1) thn
    c ++ [ins 21 0 ((b + c.length + 1 + t.length + 1 : Nat) : Int) 0] ++ t ++ [ins 20 0 (b : Int) 0]
   else genEs args ++ [ins 22 kd ad (args.length : Int)]
def genSs : Nat → List GS → List GI
 | _, [] => []
 | b, s :: r => genS b s ++ genSs (b + (genS b s).length) r
end
def c22 : VC := ⟨⟨[], []⟩, [], [], 1, true, []⟩
def t22 : VT :=
 (.lt (.app 7 56) [64, .agg [65, 66, 67, 68, 69, 70, 71]] 72 none
 (.lt (.len 30) [72] 73 none
 (.lt (.bin .sub 3 false true) [73, J 1] 74 none
 (.done (.tup [J 0, 74, 72])))))
def c24 : VC := ⟨⟨[], []⟩, [], [(0, [⟨[(10, .slx 0 0 0), (0, .ptr 0 0), (8, 74), (3, .ptr 2 0), (9, 75)], [(0, [.slx 3 7 1]), (2, [65, 66, 67, 68, 69, 70, 71, 72, 73, 74])], 4, 2, [⟨3, 7, 1, 0, (some 0)⟩], [], []⟩])], 1, true, [(24, ft24), (22, ft22)]⟩
def t24 : VT :=
 (.lt (.len 38) [74] 75 none
 (.loop 76 0 [J 0, 64]
 (.cons 2
 (.lt (.bin .lss 3 false false) [76, 75] 78 none
 (.ite 78
 (.lt (.iaddr 38) [74, 76] 79 none
 (.lt (.load 40) [79] 80 (some 10)
 (.callF 24 ft24 [77, 80, 81, 82, 83, 84, 85, 86, 87, 88, 89] 90
 (.cons 1
 (.lt (.bin .add 3 false true) [76, J 1] 102 none
 (.again 0 0 [102, 101]))
 .nil))))
 (.lt (.bin .eql 3 false true) [65, J 1] 79 none
 (.ite 79
 (.callF 22 ft22 [77, J 1, 71, J 0, J 0, 71, 72, 73] 80
 (.cons 2
 (.done (.tup [J 0, 89]))
 .nil))
 (.lt (.bin .eql 3 false true) [65, J 2] 80 none
 (.ite 80
 (.callF 22 ft22 [77, J 2, J 0, 69, J 0, J 0, J 0, .flt .f64 0] 81
 (.cons 2
 (.done (.tup [J 0, 90]))
 .nil))
 (.lt (.bin .eql 3 false true) [65, J 3] 81 none
 (.ite 81
 (.callF 22 ft22 [77, J 3, J 0, 69, 70, J 0, J 0, .flt .f64 0] 82
 (.cons 2
 (.done (.tup [J 0, 91]))
 .nil))
 (.lt (.bin .eql 3 false true) [65, J 17] 82 none
 (.ite 82
 (.lt (.len 38) [74] 83 none
 (.lt (.bin .gtr 3 false true) [83, J 0] 84 none
 (.ite 84
 (.lt (.iaddr 38) [74, J 0] 85 none
 (.lt (.faddr 40 1) [85] 86 none
 (.lt (.load 3) [86] 87 none
 (.callF 22 ft22 [77, J 17, 66, J 0, 87, J 0, J 0, .flt .f64 0] 88
 (.cons 2
 (.done (.tup [J 0, 97]))
 .nil)))))
 (.callF 22 ft22 [77, J 17, 66, J 0, J 0, J 0, J 0, .flt .f64 0] 85
 (.cons 2
 (.done (.tup [J 0, 94]))
 .nil)))))
 (.lt (.len 38) [74] 83 none
 (.lt (.bin .gtr 3 false true) [83, J 0] 84 none
 (.ite 84
 (.lt (.iaddr 38) [74, J 0] 85 none
 (.lt (.faddr 40 1) [85] 86 none
 (.lt (.load 3) [86] 87 none
 (.callF 22 ft22 [77, 65, 87, J 0, J 0, J 0, J 0, .flt .f64 0] 88
 (.cons 2
 (.done (.tup [J 0, 97]))
 .nil)))))
 (.callF 22 ft22 [77, 65, J 0, J 0, J 0, J 0, J 0, .flt .f64 0] 85
 (.cons 2
 (.done (.tup [J 0, 94]))
 .nil)))))))))))))))
 .nil)))
theorem run_app7 (l : List GI) (i : GI) (hl : l.length ≤ 1000000) : (XOp.app 7 56).run Try.prog [insts l, .agg (encG i)] = some (insts (l ++ [i])) := run_app_sl lenG (by decide) (by decide) l i (by omega)
theorem run_len30 (l : List GI) : (XOp.len 30).run Try.prog [insts l] = some (.int .i64 (l.length : Int)) := run_len_sl Try.underlying30 l
def R22 (l : List GI) (i : GI) : Nat → List AV → Prop := fun _ ws => ws = [.int .i64 (l.length : Int), insts (l ++ [i])]
theorem okIG (l : List GI) (i : GI) : okL (insts l :: encG i) = true := by rw [okL_cons, okI]; rfl
theorem p22 (l : List GI) (i : GI) (hl : l.length ≤ 1000000) : CF Try.prog 22 ft22 (insts l :: encG i) (R22 l i) := by
 refine cf_tree (c := c22) (n := 300) (t := t22) mo ov rfl (fun Y _ => known0 _) (by kernel_rfl) fun Y hf hg => ?_
 unfold t22
 refine VOK_lt (run_app7 l i hl) (okI _) (VOK_lt (run_len30 _) rfl (VOK_lt (sub_c (z := (l.length : Int)) (by simp) (by omega) (by omega)) rfl (VOK_fin ?_ rfl)))
 show okL [.int .i64 (l.length : Int), insts (l ++ [i])] = true
 simp only [okL, okC, okI]
def R24 (l : List GI) : Nat → List AV → Prop := fun _ ws => ws = [insts l]
theorem okIX (l : List GI) (x : GX) : okL (insts l :: encX x) = true := by rw [okL_cons, okI]; exact okX x
theorem ok1I (l : List GI) : okL [insts l] = true := by simp only [okL, okI]
theorem p24 : ∀ (d : Nat) (x : GX), d ≤ 10 → TX d x → ∀ l : List GI, l.length + (genE x).length ≤ 900000 → CF Try.prog 24 ft24 (insts l :: encX x) (R24 (l ++ genE x))
 | 0, _, _, h, _, _ => h.elim
 | d + 1, .mk op kd nm fd ad n vk vi vf args, hd, hx, l, hl => by
   obtain ⟨h1, _, _, _, _, h6⟩ := hx
   have hal : args.length ≤ 2 := by unfold Ari at h1; omega
   have hgl : (genE (.mk op kd nm fd ad n vk vi vf args)).length = (genEs args).length + 1 := by simp only [genE, List.length_append, List.length_cons, List.length_nil]
   have hE : ∀ i, (genEs (args.take i)).length ≤ (genEs args).length := fun i => by
    have := congrArg List.length (genEs_app (args.take i) (args.drop i))
    rw [List.take_append_drop, List.length_append] at this
    omega
   refine cf_tree (c := c24) (n := 300) (t := t24) mo ov rfl (fun Y _ => known0 _) (by kernel_rfl) fun Y hf hg => ?_
   unfold t24
   refine VOK_lt (run_len38 args) rfl ?_
   refine VOK_loop (ι := Nat) (fun i => [.int .i64 (i : Int), insts (l ++ genEs (args.take i))]) (fun i => i ≤ args.length) (fun i => args.length - i) 0 (Nat.zero_le _) (by simp [genEs]; rfl) (fun i _ => by simp only [okL, okC, okI]) (fun i j _ _ h => by simp at h; omega) (fun i hi => ?_)
   (refine it_c rfl rfl (fun h => ?_) (fun h => ?_) <;> simp only [Cmp, Decidable.not_not, Int.not_lt, Int.not_le] at h <;> try (exfalso; first | exact h trivial | omega))
   ·have hi : i < args.length := by omega
    have hld := run_ld40 args hi
    have hg : genEs (args.take (i + 1)) = genEs (args.take i) ++ genE args[i] := by
     rw [List.take_succ_eq_append_getElem hi, genEs_app]; simp only [genEs, List.append_nil]
    have hz := p24 d args[i] (by omega) (h6 _ (List.getElem_mem hi)) (l ++ genEs (args.take i)) (by
     have := hE (i + 1)
     rw [hg, List.length_append] at this
     rw [List.length_append]; omega)
    rcases hzz : args[i] with ⟨zo, zk, znm, zfd, zad, zn, zvk, zvi, zvf, za⟩
    rw [hzz] at hld hz hg
    refine VOK_lt (run_ia38 args hi) (encL_ok okX _) (VOK_ltN hld rfl (okX _) ?_)
    refine callF' hz rfl (okIX _ _) ⟨?_, trivial⟩
    rintro ws rfl
    refine VOK_lt (add_c (by omega) (by omega)) rfl (VOK_again rfl ⟨i + 1, hi, ?_, by omega⟩)
    rw [hg, ← List.append_assoc]; rfl
   have hi : i = args.length := by omega
   subst hi
   rw [List.take_length]
   have hlen : (l ++ genEs args).length ≤ 900000 := by
    rw [List.length_append]; omega
   have fin : ∀ i : GI, instE op kd ad n vk vi vf args = i → R24 (l ++ genE (.mk op kd nm fd ad n vk vi vf args)) 0 [insts (l ++ genEs args ++ [i])] := fun i hi => by
    show _ = _
    simp only [genE, hi, List.append_assoc]
   (refine it_c rfl rfl (fun h => ?_) (fun h => ?_) <;> simp only [Cmp, Decidable.not_not, Int.not_lt, Int.not_le] at h <;> try (exfalso; first | exact h trivial | omega))
   ·(
      refine callF' (p22 _ ⟨1, vk, 0, 0, vk, vi, vf⟩ (by omega)) rfl (okIG _ _) ⟨?_, trivial⟩
      rintro ws rfl
      refine VOK_fin (ok1I _) ?_)
    exact fin _ (by unfold instE; rw [if_pos h])
   (refine it_c rfl rfl (fun h => ?_) (fun h => ?_) <;> simp only [Cmp, Decidable.not_not, Int.not_lt, Int.not_le] at h <;> try (exfalso; first | exact h trivial | omega))
   ·(
      refine callF' (p22 _ (ins 2 0 ad 0) (by omega)) rfl (okIG _ _) ⟨?_, trivial⟩
      rintro ws rfl
      refine VOK_fin (ok1I _) ?_)
    exact fin _ (by unfold instE; rw [if_neg (by omega), if_pos h])
   (refine it_c rfl rfl (fun h => ?_) (fun h => ?_) <;> simp only [Cmp, Decidable.not_not, Int.not_lt, Int.not_le] at h <;> try (exfalso; first | exact h trivial | omega))
   ·(
      refine callF' (p22 _ (ins 3 0 ad n) (by omega)) rfl (okIG _ _) ⟨?_, trivial⟩
      rintro ws rfl
      refine VOK_fin (ok1I _) ?_)
    exact fin _ (by unfold instE; rw [if_neg (by omega), if_neg (by omega), if_pos h])
   have h0 : 1 ≤ args.length := by unfold Ari at h1; omega
   obtain ⟨y, r, rfl⟩ : ∃ y r, args = y :: r := by
    cases args with
    | nil => simp at h0
    | cons y r => exact ⟨y, r, rfl⟩
   obtain ⟨y1, y2, y3, y4, y5, y6, y7, y8, y9, y10⟩ := y
   (refine it_c rfl rfl (fun h => ?_) (fun h => ?_) <;> simp only [Cmp, Decidable.not_not, Int.not_lt, Int.not_le] at h <;> try (exfalso; first | exact h trivial | omega))
   ·refine VOK_lt (run_len38 _) rfl ?_
    (refine it_c rfl rfl (fun h => ?_) (fun h => ?_) <;> simp only [Cmp, Decidable.not_not, Int.not_lt, Int.not_le] at h <;> try (exfalso; first | exact h trivial | omega))
    refine VOK_lt (r := .vptr (encX (.mk y1 y2 y3 y4 y5 y6 y7 y8 y9 y10) ++ encXs r)) rfl (by show okL _ = true; exact encL_ok.okL_join (okX _) (okXs _)) ?_
    refine VOK_lt (r := .vptr ([.int .i64 y2, .str y3, .str y4, .int .i64 y5, .int .i64 y6, .int .i64 y7, .int .i64 y8, .flt .f64 y9, encA y10] ++ encXs r)) rfl (by show okL _ = true; exact encL_ok.okL_join (by simp only [okC, okL, okA]) (okXs _)) (VOK_lt (r := .int .i64 y2) rfl rfl ?_)
    (
     refine callF' (p22 _ (ins 17 kd 0 y2) (by omega)) rfl (okIG _ _) ⟨?_, trivial⟩
     rintro ws rfl
     refine VOK_fin (ok1I _) ?_)
    exact fin _ (by unfold instE; rw [if_neg (by omega), if_neg (by omega), if_neg (by omega), if_pos (by assumption)]; rfl)
   ·refine VOK_lt (run_len38 _) rfl ?_
    (refine it_c rfl rfl (fun h => ?_) (fun h => ?_) <;> simp only [Cmp, Decidable.not_not, Int.not_lt, Int.not_le] at h <;> try (exfalso; first | exact h trivial | omega))
    refine VOK_lt (r := .vptr (encX (.mk y1 y2 y3 y4 y5 y6 y7 y8 y9 y10) ++ encXs r)) rfl (by show okL _ = true; exact encL_ok.okL_join (okX _) (okXs _)) ?_
    refine VOK_lt (r := .vptr ([.int .i64 y2, .str y3, .str y4, .int .i64 y5, .int .i64 y6, .int .i64 y7, .int .i64 y8, .flt .f64 y9, encA y10] ++ encXs r)) rfl (by show okL _ = true; exact encL_ok.okL_join (by simp only [okC, okL, okA]) (okXs _)) (VOK_lt (r := .int .i64 y2) rfl rfl ?_)
    (
     refine callF' (p22 _ (ins op y2 0 0) (by omega)) rfl (okIG _ _) ⟨?_, trivial⟩
     rintro ws rfl
     refine VOK_fin (ok1I _) ?_)
    exact fin _ (by unfold instE; rw [if_neg (by omega), if_neg (by omega), if_neg (by omega), if_neg (by assumption)]; rfl)
end Go.Proofs.Ytjconanknjgpnaa.vars
set_option maxRecDepth 100000
set_option linter.unusedVariables false
set_option linter.unusedSimpArgs false
namespace Go.Proofs.Ytjconanknjgpnaa.vars
open Go Go.Sx
def c39 : VC := ⟨⟨[], []⟩, [], [(0, [⟨[(24, .slx 0 0 0), (0, .ptr 0 0), (22, 75), (3, .ptr 2 0), (23, 105)], [(0, [.slx 3 7 1]), (2, [65, 66, 67, 68, 69, 70, 71, 72, 73, 74, 75, 76, 77, 78, 79, 80, 81, 82, 83, 84, 85, 86, 87, 88, 89, 90, 91])], 4, 2, [⟨3, 7, 1, 0, (some 0)⟩], [], []⟩])], 1, true, [(24, ft24), (22, ft22)]⟩
def t39 : VT :=
 (.callF 24 ft24 [64, 76, 77, 78, 79, 80, 81, 82, 83, 84, 85] 92
 (.cons 1
 (.lt (.bin .neq 3 false true) [66, J 3] 104 none
 (.ite 104
 (.callF 22 ft22 [103, J 18, J 0, 70, J 0, J 0, J 0, .flt .f64 0] 105
 (.cons 2
 (.done (.tup [J 0, 114]))
 .nil))
 (.lt (.len 38) [75] 105 none
 (.loop 106 0 [J 0, 103]
 (.cons 2
 (.lt (.bin .lss 3 false false) [106, 105] 108 none
 (.ite 108
 (.lt (.iaddr 38) [75, 106] 109 none
 (.lt (.load 40) [109] 110 (some 10)
 (.callF 24 ft24 [107, 110, 111, 112, 113, 114, 115, 116, 117, 118, 119] 120
 (.cons 1
 (.lt (.bin .add 3 false true) [106, J 1] 132 none
 (.again 0 0 [132, 131]))
 .nil))))
 (.callF 22 ft22 [107, J 19, J 0, 70, 71, J 0, J 0, .flt .f64 0] 109
 (.cons 2
 (.done (.tup [J 0, 118]))
 .nil))))
 .nil)))))
 .nil))
def c40 : VC := ⟨⟨[], []⟩, [], [], 1, true, [(24, ft24), (22, ft22), (21, ft21)]⟩
def t40 : VT :=
 (.callF 24 ft24 [64, 76, 77, 78, 79, 80, 81, 82, 83, 84, 85] 92
 (.cons 1
 (.callF 22 ft22 [103, J 21, J 0, J 0, J 0, J 0, J 0, .flt .f64 0] 104
 (.cons 2
 (.callF 21 ft21 [113, 86] 114
 (.cons 1
 (.lt (.len 25) [87] 117 none
 (.lt (.bin .gtr 3 false true) [117, J 0] 118 none
 (.ite 118
 (.callF 22 ft22 [116, J 20, J 0, J 0, J 0, J 0, J 0, .flt .f64 0] 119
 (.cons 2
 (.lt (.len 30) [128] 129 none
 (.lt .inb [128, 112] 130 none
 (.lt (.stx 3 7 2) [128, 130, 129] 131 none
 (.chk (.same 128 131)
 (.callF 21 ft21 [131, 87] 132
 (.cons 1
 (.lt (.len 30) [134] 135 none
 (.lt .inb [134, 127] 136 none
 (.lt (.stx 3 7 2) [134, 136, 135] 137 none
 (.chk (.same 134 137)
 (.done (.tup [J 0, 137]))))))
 .nil))))))
 .nil))
 (.lt (.len 30) [116] 119 none
 (.lt .inb [116, 112] 120 none
 (.lt (.stx 3 7 2) [116, 120, 119] 121 none
 (.chk (.same 116 121)
 (.done (.tup [J 0, 121])))))))))
 .nil))
 .nil))
 .nil))
def c41 : VC := ⟨⟨[], []⟩, [], [], 1, true, [(24, ft24), (22, ft22), (21, ft21)]⟩
def t41 : VT :=
 (.lt (.len 30) [64] 92 none
 (.callF 24 ft24 [64, 76, 77, 78, 79, 80, 81, 82, 83, 84, 85] 93
 (.cons 1
 (.callF 22 ft22 [104, J 21, J 0, J 0, J 0, J 0, J 0, .flt .f64 0] 105
 (.cons 2
 (.callF 21 ft21 [114, 86] 115
 (.cons 1
 (.callF 22 ft22 [117, J 20, J 0, 92, J 0, J 0, J 0, .flt .f64 0] 118
 (.cons 2
 (.lt (.len 30) [127] 128 none
 (.lt .inb [127, 113] 129 none
 (.lt (.stx 3 7 2) [127, 129, 128] 130 none
 (.chk (.same 127 130)
 (.done (.tup [J 0, 130]))))))
 .nil))
 .nil))
 .nil))
 .nil)))
def c21 : VC := ⟨⟨[], []⟩, [], [(0, [⟨[(10, .slx 0 0 0), (0, .ptr 0 0), (8, 65), (9, 66)], [(0, [.slx 1 7 1])], 2, 2, [⟨1, 7, 1, 0, (some 0)⟩], [], []⟩]), (3, [⟨[(36, .slx 0 0 0), (0, .ptr 0 0), (34, 97), (5, .ptr 2 0), (10, 67), (8, 65), (9, 66), (35, 102)], [(0, [.slx 3 7 1]), (2, [71, 72, 73, 74, 75, 76, 77, 78, 79, 80, 81, 82, 83, 84, 85, 86, 87, 88, 89, 90, 91, 92, 93, 94, 95, 96, 97])], 4, 2, [⟨3, 7, 1, 0, (some 0)⟩], [], []⟩])], 1, true, [(39, ft39), (40, ft40), (41, ft41), (24, ft24), (22, ft22)]⟩
def t21 : VT :=
 (.lt (.len 25) [65] 66 none
 (.loop 67 0 [J 0, 64]
 (.cons 2
 (.lt (.bin .lss 3 false false) [67, 66] 69 none
 (.ite 69
 (.lt (.iaddr 25) [65, 67] 70 none
 (.lt (.load 42) [70] 71 (some 27)
 (.lt (.bin .eql 3 false true) [71, J 1] 98 none
 (.ite 98
 (.callF 39 ft39 [68, 71, 72, 73, 74, 75, 76, 77, 78, 79, 80, 81, 82, 83, 84, 85, 86, 87, 88, 89, 90, 91, 92, 93, 94, 95, 96, 97] 99
 (.cons 1
 (.lt (.bin .add 3 false true) [67, J 1] 128 none
 (.again 0 0 [128, 127]))
 .nil))
 (.lt (.bin .eql 3 false true) [71, J 2] 99 none
 (.ite 99
 (.callF 40 ft40 [68, 71, 72, 73, 74, 75, 76, 77, 78, 79, 80, 81, 82, 83, 84, 85, 86, 87, 88, 89, 90, 91, 92, 93, 94, 95, 96, 97] 100
 (.cons 1
 (.lt (.bin .add 3 false true) [67, J 1] 129 none
 (.again 0 0 [129, 128]))
 .nil))
 (.lt (.bin .eql 3 false true) [71, J 3] 100 none
 (.ite 100
 (.callF 41 ft41 [68, 71, 72, 73, 74, 75, 76, 77, 78, 79, 80, 81, 82, 83, 84, 85, 86, 87, 88, 89, 90, 91, 92, 93, 94, 95, 96, 97] 101
 (.cons 1
 (.lt (.bin .add 3 false true) [67, J 1] 130 none
 (.again 0 0 [130, 129]))
 .nil))
 (.lt (.bin .eql 3 false true) [71, J 4] 101 none
 (.ite 101
 (.lt (.len 38) [97] 102 none
 (.loop 103 0 [J 0, 68]
 (.cons 2
 (.lt (.bin .lss 3 false false) [103, 102] 105 none
 (.ite 105
 (.lt (.iaddr 38) [97, 103] 106 none
 (.lt (.load 40) [106] 107 (some 10)
 (.callF 24 ft24 [104, 107, 108, 109, 110, 111, 112, 113, 114, 115, 116] 117
 (.cons 1
 (.lt (.bin .add 3 false true) [103, J 1] 129 none
 (.again 1 0 [129, 128]))
 .nil))))
 (.lt (.len 38) [97] 106 none
 (.callF 22 ft22 [104, J 22, 95, 96, 106, J 0, J 0, .flt .f64 0] 107
 (.cons 2
 (.lt (.bin .add 3 false true) [67, J 1] 117 none
 (.again 0 0 [117, 116]))
 .nil)))))
 .nil)))
 (.lt (.bin .add 3 false true) [67, J 1] 102 none
 (.again 0 0 [102, 68]))))))))))))
 (.done (.tup [J 0, 68]))))
 .nil)))
def c11 : VC := ⟨⟨[], []⟩, [], [], 0, true, [(24, ft24)]⟩
def t11 : VT :=
 (.callF 24 ft24 [.nsl, 64, 65, 66, 67, 68, 69, 70, 71, 72, 73] 74
 (.cons 1
 (.done (85))
 .nil))
def c8 : VC := ⟨⟨[], []⟩, [], [], 0, true, [(21, ft21), (22, ft22)]⟩
def t8 : VT :=
 (.callF 21 ft21 [.nsl, 65] 66
 (.cons 1
 (.callF 22 ft22 [68, J 23, J 0, J 0, J 0, J 0, J 0, .flt .f64 0] 69
 (.cons 2
 (.lt (.len 30) [78] 79 none
 (.lt (.bin .gtr 3 false true) [79, J 400] 80 none
 (.ite 80
 (.done (.tup [.nsl, J 12]))
 (.done (.tup [78, J 0])))))
 .nil))
 .nil))
theorem run_stxA (l : List GI) {i : Nat} (hi : i < l.length) (a : Int) (k : IntKind) : (XOp.stx 3 7 2).run Try.prog [insts l, .int k (i : Int), .int .i64 a] = some (insts (l.set i { l[i] with ad := a })) :=
 run_stx (ti := (Try.prog.info? 3).get!) lenG hi (p := [.int .i64 l[i].op, .int .i64 l[i].kd]) (q := [.int .i64 l[i].ad]) (r := [.int .i64 l[i].n, .int .i64 l[i].vk, .int .i64 l[i].vi, .flt .f64 l[i].vf]) (xs := [.int .i64 a]) rfl (.inr ⟨_, _, rfl⟩) (by kernel_rfl) (by kernel_rfl) rfl rfl rfl rfl rfl k
theorem set_mid {α : Type} (a : List α) (x y : α) (b : List α) : (a ++ ([x] ++ b)).set a.length y = a ++ ([y] ++ b) := by
 rw [List.set_append_right _ _ (Nat.le_refl _), Nat.sub_self]; rfl
theorem get_mid {α : Type} (a : List α) (x : α) (b : List α) (h : a.length < (a ++ ([x] ++ b)).length) : (a ++ ([x] ++ b))[a.length] = x := by
 rw [List.getElem_append_right (Nat.le_refl _)]; simp
theorem run_jump (a : List GI) (op : Int) (b : List GI) (t : Int) : (XOp.stx 3 7 2).run Try.prog [insts (a ++ ([ins op 0 0 0] ++ b)), .int .i64 (a.length : Int), .int .i64 t] = some (insts (a ++ ([ins op 0 t 0] ++ b))) := by
 have h : a.length < (a ++ ([ins op 0 0 0] ++ b)).length := by simp
 rw [run_stxA _ h t .i64, get_mid, set_mid]; rfl
theorem same_ok {Y : Sy} {i j : Nat} {l l' : List GI} (h1 : Y.v i = some (insts l)) (h2 : Y.v j = some (insts l')) (h : l.length = l'.length) : (Chk.same i j).ok Y := by
 cases l with
 | nil =>
   cases l' with
   | nil => exact .inl ⟨h1, h2⟩
   | cons a r => simp at h
 | cons a r =>
   cases l' with
   | nil => simp at h
   | cons b q =>
     have e : r.length = q.length := by simpa using h
     exact .inr ⟨r.length + 1, 7, _, _, h1, by rw [h2]; show some (AV.vsl (q.length + 1) 7 _) = _; rw [e]⟩
theorem okIS (l : List GI) (x : GS) : okL (insts l :: encS x) = true := by rw [okL_cons, okI]; exact okS x
theorem okIB (l : List GI) (x : List GS) : okL [insts l, encB x] = true := by rw [okL_cons, okI]; simp only [okL, okB]; rfl
theorem genSs_app : ∀ (b : Nat) (x y : List GS), genSs b (x ++ y) = genSs b x ++ genSs (b + (genSs b x).length) y
 | b, [], y => by simp [genSs]
 | b, s :: x, y => by
   simp only [List.cons_append, genSs, genSs_app _ x y, List.append_assoc, List.length_append, Nat.add_assoc]
def P21 (d : Nat) : Prop := ∀ (x : List GS) (l : List GI), x.length ≤ 5 → (∀ s ∈ x, TS d s) → l.length + (genSs l.length x).length ≤ 900000 → CF Try.prog 21 ft21 [insts l, encB x] (R24 (l ++ genSs l.length x))
theorem e24 {x : GX} (h : TX 5 x) {l : List GI} (hl : l.length + (genE x).length ≤ 900000) : CF Try.prog 24 ft24 (insts l :: encX x) (R24 (l ++ genE x)) := p24 5 x (by decide) h l hl
theorem p39 (to e : GX) (thn els : List GS) (nm : List UInt8) (kd ad : Int) (args : List GX) (l : List GI) (ht : TX 5 to) (ho : to.op = 2 ∨ to.op = 3) (he : TX 5 e)
  (hl : l.length + (genS l.length (.mk 1 to e thn els nm kd ad args)).length ≤ 900000) : CF Try.prog 39 ft39 (insts l :: encS (.mk 1 to e thn els nm kd ad args)) (R24 (l ++ genS l.length (.mk 1 to e thn els nm kd ad args))) := by
 have hgen : genS l.length (.mk 1 to e thn els nm kd ad args) = genE e ++ genTo to := by simp [genS]
 rw [hgen] at hl ⊢
 clear hgen
 have hc := e24 he (l := l) (by rw [List.length_append] at hl; omega)
 obtain ⟨to1, to2, to3, to4, to5, to6, to7, to8, to9, to10⟩ := to
 obtain ⟨e1, e2, e3, e4, e5, e6, e7, e8, e9, e10⟩ := e
 refine cf_tree (c := c39) (n := 300) (t := t39) mo ov rfl (fun Y _ => known0 _) (by kernel_rfl) fun Y hf hg => ?_
 unfold t39
 refine callF' hc rfl (okIX _ _) ⟨?_, trivial⟩
 rintro ws rfl
 simp only [GX.op] at ho
 simp only [genTo] at hl ⊢
 (refine it_c rfl rfl (fun h => ?_) (fun h => ?_) <;> simp only [Cmp, Decidable.not_not, Int.not_lt, Int.not_le] at h <;> try (exfalso; first | exact h trivial | omega))
 ·rw [if_neg h] at hl ⊢
  simp only [List.length_append, List.length_cons, List.length_nil] at hl
  refine callF' (p22 _ (ins 18 0 to5 0) (by rw [List.length_append]; omega)) rfl (okIG _ _) ⟨?_, trivial⟩
  rintro ws rfl
  exact VOK_fin (ok1I _) (congrArg (fun z => [insts z]) (List.append_assoc ..))
 ·rw [if_pos h] at hl ⊢
  simp only [List.length_append, List.length_cons, List.length_nil] at hl
  have hW : ∀ a ∈ to10, TX 4 a := ht.2.2.2.2.2
  have hal : to10.length ≤ 2 := by have := ht.1; unfold Ari at this; omega
  have hE : ∀ i, (genEs (to10.take i)).length ≤ (genEs to10).length := fun i => by
   have := congrArg List.length (genEs_app (to10.take i) (to10.drop i))
   rw [List.take_append_drop, List.length_append] at this
   omega
  refine VOK_lt (run_len38 to10) rfl ?_
  refine VOK_loop (ι := Nat) (fun i => [.int .i64 (i : Int), insts (l ++ genE (.mk e1 e2 e3 e4 e5 e6 e7 e8 e9 e10) ++ genEs (to10.take i))]) (fun i => i ≤ to10.length) (fun i => to10.length - i) 0 (Nat.zero_le _) (by simp [genEs]; rfl) (fun i _ => by simp only [okL, okC, okI]) (fun i j _ _ h => by simp at h; omega) (fun i hi => ?_)
  (refine it_c rfl rfl (fun h => ?_) (fun h => ?_) <;> simp only [Cmp, Decidable.not_not, Int.not_lt, Int.not_le] at h <;> try (exfalso; first | exact h trivial | omega))
  ·have hi : i < to10.length := by
     have : (i : Int) < (to10.length : Int) := by assumption
     omega
   have hld := run_ld40 to10 hi
   have hg : genEs (to10.take (i + 1)) = genEs (to10.take i) ++ genE to10[i] := by
    rw [List.take_succ_eq_append_getElem hi, genEs_app]; simp only [genEs, List.append_nil]
   have hz := e24 (TX_mono (by decide) (hW _ (List.getElem_mem hi))) (l := l ++ genE (.mk e1 e2 e3 e4 e5 e6 e7 e8 e9 e10) ++ genEs (to10.take i)) (by
    have := hE (i + 1)
    rw [hg, List.length_append] at this
    simp only [List.length_append]; omega)
   rcases hzz : to10[i] with ⟨zo, zk, znm, zfd, zad, zn, zvk, zvi, zvf, za⟩
   rw [hzz] at hld hz hg
   refine VOK_lt (run_ia38 to10 hi) (encL_ok okX _) (VOK_ltN hld rfl (okX _) ?_)
   refine callF' hz rfl (okIX _ _) ⟨?_, trivial⟩
   rintro ws rfl
   refine VOK_lt (add_c (by omega) (by omega)) rfl (VOK_again rfl ⟨i + 1, hi, ?_, by omega⟩)
   rw [hg, ← List.append_assoc]; rfl
  have hi : i = to10.length := by
   have : (to10.length : Int) ≤ (i : Int) := by assumption
   omega
  subst hi
  rw [List.take_length]
  refine callF' (p22 _ (ins 19 0 to5 to6) (by simp only [List.length_append]; omega)) rfl (okIG _ _) ⟨?_, trivial⟩
  rintro ws rfl
  exact VOK_fin (ok1I _) (congrArg (fun z => [insts z]) (by simp only [List.append_assoc]))
theorem p22' {l l' : List GI} {i : GI} (hl : l.length ≤ 1000000) (e : l ++ [i] = l') : CF Try.prog 22 ft22 (insts l :: encG i) (fun _ ws => ws = [.int .i64 (l.length : Int), insts l']) := by
 subst e; exact p22 l i hl
theorem p40 (d : Nat) (hT : P21 d) (to e : GX) (thn els : List GS) (nm : List UInt8) (kd ad : Int) (args : List GX) (l : List GI) (he : TX 5 e) (h1 : ∀ s ∈ thn, TS d s) (h2 : ∀ s ∈ els, TS d s) (hb1 : thn.length ≤ 5) (hb : els.length ≤ 5)
  (hl : l.length + (genS l.length (.mk 2 to e thn els nm kd ad args)).length ≤ 900000) : CF Try.prog 40 ft40 (insts l :: encS (.mk 2 to e thn els nm kd ad args)) (R24 (l ++ genS l.length (.mk 2 to e thn els nm kd ad args))) := by
 obtain ⟨c, hc⟩ : ∃ c, c = genE e := ⟨_, rfl⟩
 obtain ⟨t, ht⟩ : ∃ t, t = genSs (l.length + c.length + 1) thn := ⟨_, rfl⟩
 obtain ⟨q, hq⟩ : ∃ q, q = genSs (l.length + c.length + 1 + t.length + 1) els := ⟨_, rfl⟩
 have hgen : genS l.length (.mk 2 to e thn els nm kd ad args) = if els = [] then c ++ [ins 21 0 ((l.length + c.length + 1 + t.length : Nat) : Int) 0] ++ t else c ++ [ins 21 0 ((l.length + c.length + 1 + t.length + 1 : Nat) : Int) 0] ++ t ++ [ins 20 0 ((l.length + c.length + 1 + t.length + 1 + q.length : Nat) : Int) 0] ++ q := by
  subst hq ht hc; simp [genS]
 rw [hgen] at hl ⊢
 clear hgen
 have hlc : l.length + c.length + 1 + t.length ≤ 900000 := by
  split at hl <;> simp only [List.length_append, List.length_cons, List.length_nil] at hl <;> omega
 have k1 := e24 he (l := l) (by rw [← hc]; omega)
 rw [← hc] at k1
 have k2 : CF Try.prog 22 ft22 (insts (l ++ c) :: encG (ins 21 0 0 0)) _ := p22' (l' := l ++ c ++ [ins 21 0 0 0]) (by rw [List.length_append]; omega) rfl
 have k3 := hT thn (l ++ c ++ [ins 21 0 0 0]) hb1 h1 (by
  simp only [List.length_append, List.length_cons, List.length_nil, Nat.zero_add]
  rw [← ht]; omega)
 have e0 : (l ++ c ++ [ins 21 0 0 0]).length = l.length + c.length + 1 := by simp only [List.length_append, List.length_cons, List.length_nil]
 rw [e0, ← ht, List.append_assoc (l ++ c)] at k3
 obtain ⟨e1, e2, e3, e4, e5, e6, e7, e8, e9, e10⟩ := e
 obtain ⟨to1, to2, to3, to4, to5, to6, to7, to8, to9, to10⟩ := to
 refine cf_tree (c := c40) (n := 300) (t := t40) mo ov rfl (fun Y _ => known0 _) (by kernel_rfl) fun Y hf hg => ?_
 unfold t40
 refine callF' k1 rfl (okIX _ _) ⟨?_, trivial⟩
 rintro ws rfl
 refine callF' k2 rfl (okIG _ _) ⟨?_, trivial⟩
 rintro ws rfl
 refine callF' k3 rfl (okIB _ _) ⟨?_, trivial⟩
 rintro ws rfl
 refine VOK_lt (run_len25 els) rfl ?_
 (refine it_c rfl rfl (fun h => ?_) (fun h => ?_) <;> simp only [Cmp, Decidable.not_not, Int.not_lt, Int.not_le] at h <;> try (exfalso; first | exact h trivial | omega))
 ·have hne : els ≠ [] := fun e => by subst e; simp at h
  rw [if_neg hne] at hl ⊢
  simp only [List.length_append, List.length_cons, List.length_nil] at hl
  have k4 : CF Try.prog 22 ft22 (insts (l ++ c ++ ([ins 21 0 0 0] ++ t)) :: encG (ins 20 0 0 0)) _ := p22' (l' := l ++ c ++ ([ins 21 0 0 0] ++ (t ++ [ins 20 0 0 0]))) (by simp only [List.length_append, List.length_cons, List.length_nil]; omega) (by simp only [List.append_assoc])
  refine callF' k4 rfl (okIG _ _) ⟨?_, trivial⟩
  rintro ws rfl
  refine VOK_lt (run_len30 _) rfl (VOK_lt (run_inb (i := (l ++ c).length) (by simp) .i64) rfl (VOK_lt (run_jump (l ++ c) 21 (t ++ [ins 20 0 0 0]) _) (okI _) (VOK_chk (same_ok rfl rfl (by simp)) ?_)))
  have e5' : (l ++ c ++ ([ins 21 0 0 0] ++ (t ++ [ins 20 0 0 0]))).length = l.length + c.length + 1 + t.length + 1 := by simp only [List.length_append, List.length_cons, List.length_nil]; omega
  have k5 := hT els (l ++ c ++ ([ins 21 0 ((l ++ c ++ ([ins 21 0 0 0] ++ (t ++ [ins 20 0 0 0]))).length : Int) 0] ++ (t ++ [ins 20 0 0 0]))) hb h2 (by
   simp only [List.length_append, List.length_cons, List.length_nil]
   rw [show l.length + c.length + (0 + 1 + (t.length + (0 + 1))) = l.length + c.length + 1 + t.length + 1 by omega, ← hq]; omega)
  have e6' : (l ++ c ++ ([ins 21 0 ((l ++ c ++ ([ins 21 0 0 0] ++ (t ++ [ins 20 0 0 0]))).length : Int) 0] ++ (t ++ [ins 20 0 0 0]))).length = l.length + c.length + 1 + t.length + 1 := by simp only [List.length_append, List.length_cons, List.length_nil]; omega
  rw [e6', ← hq] at k5
  have e7' : l ++ c ++ ([ins 21 0 ((l ++ c ++ ([ins 21 0 0 0] ++ (t ++ [ins 20 0 0 0]))).length : Int) 0] ++ (t ++ [ins 20 0 0 0])) ++ q = (l ++ c ++ ([ins 21 0 ((l ++ c ++ ([ins 21 0 0 0] ++ (t ++ [ins 20 0 0 0]))).length : Int) 0] ++ t)) ++ ([ins 20 0 0 0] ++ q) := by simp only [List.append_assoc]
  rw [e7'] at k5
  refine callF' k5 rfl (okIB _ _) ⟨?_, trivial⟩
  rintro ws rfl
  have e8' : (((l ++ c ++ ([ins 21 0 0 0] ++ t)).length : Nat) : Int) = (((l ++ c ++ ([ins 21 0 ((l ++ c ++ ([ins 21 0 0 0] ++ (t ++ [ins 20 0 0 0]))).length : Int) 0] ++ t)).length : Nat) : Int) := by simp only [List.length_append, List.length_cons, List.length_nil]
  refine VOK_lt (run_len30 _) rfl (VOK_lt (r := .int .i64 (((l ++ c ++ ([ins 21 0 ((l ++ c ++ ([ins 21 0 0 0] ++ (t ++ [ins 20 0 0 0]))).length : Int) 0] ++ t)).length : Nat) : Int)) (by rw [← e8']; exact run_inb (i := (l ++ c ++ ([ins 21 0 0 0] ++ t)).length) (by simp) .i64) rfl (VOK_lt (run_jump _ 20 q _) (okI _) (VOK_chk (same_ok rfl rfl (by simp)) (VOK_fin (ok1I _) ?_))))
  refine congrArg (fun z => [insts z]) ?_
  rw [e5']
  simp only [List.append_assoc, List.length_append, List.length_cons, List.length_nil]
  have x1 : l.length + (c.length + (0 + 1 + (t.length + (0 + 1 + q.length)))) = l.length + c.length + 1 + t.length + 1 + q.length := by omega
  rw [x1]
 ·have hne : els = [] := by
    cases els with
    | nil => rfl
    | cons a r => simp at h; omega
  rw [if_pos hne]
  refine VOK_lt (run_len30 _) rfl (VOK_lt (run_inb (i := (l ++ c).length) (by simp) .i64) rfl (VOK_lt (run_jump (l ++ c) 21 t _) (okI _) (VOK_chk (same_ok rfl rfl (by simp)) (VOK_fin (ok1I _) ?_))))
  refine congrArg (fun z => [insts z]) ?_
  simp only [List.append_assoc, List.length_append, List.length_cons, List.length_nil]
  have x1 : l.length + (c.length + (0 + 1 + t.length)) = l.length + c.length + 1 + t.length := by omega
  rw [x1]
theorem p41 (d : Nat) (hT : P21 d) (to e : GX) (thn els : List GS) (nm : List UInt8) (kd ad : Int) (args : List GX) (l : List GI) (he : TX 5 e) (h1 : ∀ s ∈ thn, TS d s) (hb1 : thn.length ≤ 5)
  (hl : l.length + (genS l.length (.mk 3 to e thn els nm kd ad args)).length ≤ 900000) : CF Try.prog 41 ft41 (insts l :: encS (.mk 3 to e thn els nm kd ad args)) (R24 (l ++ genS l.length (.mk 3 to e thn els nm kd ad args))) := by
 obtain ⟨c, hc⟩ : ∃ c, c = genE e := ⟨_, rfl⟩
 obtain ⟨t, ht⟩ : ∃ t, t = genSs (l.length + c.length + 1) thn := ⟨_, rfl⟩
 have hgen : genS l.length (.mk 3 to e thn els nm kd ad args) = c ++ [ins 21 0 ((l.length + c.length + 1 + t.length + 1 : Nat) : Int) 0] ++ t ++ [ins 20 0 (l.length : Int) 0] := by
  subst ht hc; simp [genS]
 rw [hgen] at hl ⊢
 clear hgen
 simp only [List.length_append, List.length_cons, List.length_nil] at hl
 have k1 := e24 he (l := l) (by rw [← hc]; omega)
 rw [← hc] at k1
 have k2 : CF Try.prog 22 ft22 (insts (l ++ c) :: encG (ins 21 0 0 0)) _ := p22' (l' := l ++ c ++ [ins 21 0 0 0]) (by rw [List.length_append]; omega) rfl
 have k3 := hT thn (l ++ c ++ [ins 21 0 0 0]) hb1 h1 (by
  simp only [List.length_append, List.length_cons, List.length_nil, Nat.zero_add]
  rw [← ht]; omega)
 have e0 : (l ++ c ++ [ins 21 0 0 0]).length = l.length + c.length + 1 := by simp only [List.length_append, List.length_cons, List.length_nil]
 rw [e0, ← ht, List.append_assoc (l ++ c)] at k3
 have k4 : CF Try.prog 22 ft22 (insts (l ++ c ++ ([ins 21 0 0 0] ++ t)) :: encG (ins 20 0 (l.length : Int) 0)) _ := p22' (l' := l ++ c ++ ([ins 21 0 0 0] ++ (t ++ [ins 20 0 (l.length : Int) 0]))) (by simp only [List.length_append, List.length_cons, List.length_nil]; omega) (by simp only [List.append_assoc])
 obtain ⟨e1, e2, e3, e4, e5, e6, e7, e8, e9, e10⟩ := e
 obtain ⟨to1, to2, to3, to4, to5, to6, to7, to8, to9, to10⟩ := to
 refine cf_tree (c := c41) (n := 300) (t := t41) mo ov rfl (fun Y _ => known0 _) (by kernel_rfl) fun Y hf hg => ?_
 unfold t41
 refine VOK_lt (run_len30 _) rfl ?_
 refine callF' k1 rfl (okIX _ _) ⟨?_, trivial⟩
 rintro ws rfl
 refine callF' k2 rfl (okIG _ _) ⟨?_, trivial⟩
 rintro ws rfl
 refine callF' k3 rfl (okIB _ _) ⟨?_, trivial⟩
 rintro ws rfl
 refine callF' k4 rfl (okIG _ _) ⟨?_, trivial⟩
 rintro ws rfl
 refine VOK_lt (run_len30 _) rfl (VOK_lt (run_inb (i := (l ++ c).length) (by simp) .i64) rfl (VOK_lt (run_jump (l ++ c) 21 (t ++ [ins 20 0 (l.length : Int) 0]) _) (okI _) (VOK_chk (same_ok rfl rfl (by simp)) (VOK_fin (ok1I _) ?_))))
 refine congrArg (fun z => [insts z]) ?_
 simp only [List.append_assoc, List.length_append, List.length_cons, List.length_nil]
 have x1 : l.length + (c.length + (0 + 1 + (t.length + (0 + 1)))) = l.length + c.length + 1 + t.length + 1 := by omega
 rw [x1]
theorem genSs_take (b : Nat) (x : List GS) {i : Nat} (hi : i < x.length) : genSs b (x.take (i + 1)) = genSs b (x.take i) ++ genS (b + (genSs b (x.take i)).length) x[i] := by
 rw [List.take_succ_eq_append_getElem hi, genSs_app]; simp only [genSs, List.append_nil]
theorem genSs_le (b : Nat) (x : List GS) (i : Nat) : (genSs b (x.take i)).length ≤ (genSs b x).length := by
 have := congrArg List.length (genSs_app b (x.take i) (x.drop i))
 rw [List.take_append_drop, List.length_append] at this
 omega
theorem p21 (d : Nat) (hT : ∀ e, d = e + 1 → P21 e) : P21 d := by
 intro x l hx5 hx hl
 rcases d with _ | d
 ·have : x = [] := by
    cases x with
    | nil => rfl
    | cons a r => exact (hx a (List.mem_cons_self ..)).elim
  subst this
  refine cf_tree (c := c21) (n := 300) (t := t21) mo ov rfl (fun Y _ => known0 _) (by kernel_rfl) fun Y hf hg => ?_
  unfold t21
  refine VOK_lt (run_len25 []) rfl ?_
  refine VOK_loop (ι := Unit) (fun _ => [.int .i64 0, insts l]) (fun _ => True) (fun _ => 0) () trivial rfl (fun i _ => by simp only [okL, okC, okI]) (fun i j _ _ h => rfl) (fun i hi => ?_)
  refine VOK_lt (r := .bool false) rfl rfl (VOK_ite rfl (fun h => by cases h) (fun _ => VOK_fin (ok1I _) ?_))
  exact congrArg (fun z => [insts z]) (by simp [genSs])
 have hT := hT d rfl
 refine cf_tree (c := c21) (n := 300) (t := t21) mo ov rfl (fun Y _ => known0 _) (by kernel_rfl) fun Y hf hg => ?_
 unfold t21
 refine VOK_lt (run_len25 x) rfl ?_
 refine VOK_loop (ι := Nat) (fun i => [.int .i64 (i : Int), insts (l ++ genSs l.length (x.take i))]) (fun i => i ≤ x.length) (fun i => x.length - i) 0 (Nat.zero_le _) (by simp [genSs]; rfl) (fun i _ => by simp only [okL, okC, okI]) (fun i j _ _ h => by simp at h; omega) (fun i hi => ?_)
 (refine it_c rfl rfl (fun h => ?_) (fun h => ?_) <;> simp only [Cmp, Decidable.not_not, Int.not_lt, Int.not_le] at h <;> try (exfalso; first | exact h trivial | omega))
 ·have hi : i < x.length := by omega
  have hld := run_ld42 x hi
  have hz := hx x[i] (List.getElem_mem hi)
  have hg := genSs_take l.length x hi
  have hle := genSs_le l.length x (i + 1)
  rw [hg, List.length_append] at hle
  have hlen : (l ++ genSs l.length (x.take i)).length = l.length + (genSs l.length (x.take i)).length := List.length_append
  rw [← hlen] at hg hle
  have nxt : insts (l ++ genSs l.length (x.take i) ++ genS (l ++ genSs l.length (x.take i)).length x[i]) = insts (l ++ genSs l.length (x.take (i + 1))) := by rw [hg, List.append_assoc]
  have hb : (l ++ genSs l.length (x.take i)).length + (genS (l ++ genSs l.length (x.take i)).length x[i]).length ≤ 900000 := by rw [hlen] at hle ⊢; omega
  rcases hzz : x[i] with ⟨op, to, e, thn, els, nm, kd, ad, args⟩
  rw [hzz] at hld hz nxt hb
  obtain ⟨to1, to2, to3, to4, to5, to6, to7, to8, to9, to10⟩ := to
  obtain ⟨e1, e2, e3, e4, e5, e6, e7, e8, e9, e10⟩ := e
  refine VOK_lt (run_ia25 x hi) (encL_ok okS _) (VOK_ltN hld rfl (okS _) ?_)
  rcases hz with ⟨rfl, a1, a2, a3, a4⟩ | ⟨ho, b1, b2, b3, b4, b5, b6⟩ | ⟨rfl, c1, c2⟩
  ·(refine it_c rfl rfl (fun h => ?_) (fun h => ?_) <;> simp only [Cmp, Decidable.not_not, Int.not_lt, Int.not_le] at h <;> try (exfalso; first | exact h trivial | omega))
   refine callF' (p39 _ _ thn els nm kd ad args _ a1 a2 a3 hb) rfl (okIS _ _) ⟨?_, trivial⟩
   rintro ws rfl
   exact VOK_lt (add_c (by omega) (by omega)) rfl (VOK_again rfl ⟨i + 1, hi, by rw [← nxt]; rfl, by omega⟩)
  ·rcases ho with rfl | rfl
   ·(refine it_c rfl rfl (fun h => ?_) (fun h => ?_) <;> simp only [Cmp, Decidable.not_not, Int.not_lt, Int.not_le] at h <;> try (exfalso; first | exact h trivial | omega)); (refine it_c rfl rfl (fun h => ?_) (fun h => ?_) <;> simp only [Cmp, Decidable.not_not, Int.not_lt, Int.not_le] at h <;> try (exfalso; first | exact h trivial | omega))
    refine callF' (p40 d hT _ _ thn els nm kd ad args _ b1 b5 b6 b3 b4 hb) rfl (okIS _ _) ⟨?_, trivial⟩
    rintro ws rfl
    exact VOK_lt (add_c (by omega) (by omega)) rfl (VOK_again rfl ⟨i + 1, hi, by rw [← nxt]; rfl, by omega⟩)
   ·(refine it_c rfl rfl (fun h => ?_) (fun h => ?_) <;> simp only [Cmp, Decidable.not_not, Int.not_lt, Int.not_le] at h <;> try (exfalso; first | exact h trivial | omega)); (refine it_c rfl rfl (fun h => ?_) (fun h => ?_) <;> simp only [Cmp, Decidable.not_not, Int.not_lt, Int.not_le] at h <;> try (exfalso; first | exact h trivial | omega)); (refine it_c rfl rfl (fun h => ?_) (fun h => ?_) <;> simp only [Cmp, Decidable.not_not, Int.not_lt, Int.not_le] at h <;> try (exfalso; first | exact h trivial | omega))
    refine callF' (p41 d hT _ _ thn els nm kd ad args _ b1 b5 b3 hb) rfl (okIS _ _) ⟨?_, trivial⟩
    rintro ws rfl
    exact VOK_lt (add_c (by omega) (by omega)) rfl (VOK_again rfl ⟨i + 1, hi, by rw [← nxt]; rfl, by omega⟩)
  ·(refine it_c rfl rfl (fun h => ?_) (fun h => ?_) <;> simp only [Cmp, Decidable.not_not, Int.not_lt, Int.not_le] at h <;> try (exfalso; first | exact h trivial | omega)); (refine it_c rfl rfl (fun h => ?_) (fun h => ?_) <;> simp only [Cmp, Decidable.not_not, Int.not_lt, Int.not_le] at h <;> try (exfalso; first | exact h trivial | omega)); (refine it_c rfl rfl (fun h => ?_) (fun h => ?_) <;> simp only [Cmp, Decidable.not_not, Int.not_lt, Int.not_le] at h <;> try (exfalso; first | exact h trivial | omega)); (refine it_c rfl rfl (fun h => ?_) (fun h => ?_) <;> simp only [Cmp, Decidable.not_not, Int.not_lt, Int.not_le] at h <;> try (exfalso; first | exact h trivial | omega))
   have hal : args.length ≤ 2 := by
    rcases c1 with ⟨_, _, c1⟩ | ⟨_, _, c1⟩ | ⟨_, _, c1⟩ <;> (have := congrArg List.length c1; simp at this; omega)
   obtain ⟨l', hl'⟩ : ∃ l', l' = l ++ genSs l.length (x.take i) := ⟨_, rfl⟩
   rw [← hl'] at nxt hb
   have hgen : genS l'.length (.mk 4 (.mk to1 to2 to3 to4 to5 to6 to7 to8 to9 to10) (.mk e1 e2 e3 e4 e5 e6 e7 e8 e9 e10) thn els nm kd ad args) = genEs args ++ [ins 22 kd ad (args.length : Int)] := by simp [genS]
   rw [hgen] at nxt hb
   simp only [List.length_append, List.length_cons, List.length_nil] at hb
   have hE : ∀ i, (genEs (args.take i)).length ≤ (genEs args).length := fun i => by
    have := congrArg List.length (genEs_app (args.take i) (args.drop i))
    rw [List.take_append_drop, List.length_append] at this
    omega
   refine VOK_lt (run_len38 args) rfl ?_
   refine VOK_loop (ι := Nat) (fun j => [.int .i64 (j : Int), insts (l' ++ genEs (args.take j))]) (fun j => j ≤ args.length) (fun j => args.length - j) 0 (Nat.zero_le _) (by rw [hl']; simp [genEs]; rfl) (fun i _ => by simp only [okL, okC, okI]) (fun i j _ _ h => by simp at h; omega) (fun j hj => ?_)
   (refine it_c rfl rfl (fun h => ?_) (fun h => ?_) <;> simp only [Cmp, Decidable.not_not, Int.not_lt, Int.not_le] at h <;> try (exfalso; first | exact h trivial | omega))
   ·have hj' : j < args.length := by
      have : (j : Int) < (args.length : Int) := by assumption
      omega
    have hld := run_ld40 args hj'
    have hg2 : genEs (args.take (j + 1)) = genEs (args.take j) ++ genE args[j] := by
     rw [List.take_succ_eq_append_getElem hj', genEs_app]; simp only [genEs, List.append_nil]
    have hz2 := e24 (c2 _ (List.getElem_mem hj')) (l := l' ++ genEs (args.take j)) (by
     have := hE (j + 1)
     rw [hg2, List.length_append] at this
     simp only [List.length_append]; omega)
    rcases hyy : args[j] with ⟨zo, zk, znm, zfd, zad, zn, zvk, zvi, zvf, za⟩
    rw [hyy] at hld hz2 hg2
    refine VOK_lt (run_ia38 args hj') (encL_ok okX _) (VOK_ltN hld rfl (okX _) ?_)
    refine callF' hz2 rfl (okIX _ _) ⟨?_, trivial⟩
    rintro ws rfl
    refine VOK_lt (add_c (by omega) (by omega)) rfl (VOK_again rfl ⟨j + 1, hj', ?_, by omega⟩)
    rw [hg2, ← List.append_assoc]; rfl
   have hj' : j = args.length := by
    have : (args.length : Int) ≤ (j : Int) := by assumption
    omega
   subst hj'
   rw [List.take_length]
   refine VOK_lt (run_len38 args) rfl ?_
   refine callF' (p22 _ (ins 22 kd ad (args.length : Int)) (by simp only [List.length_append]; omega)) rfl (okIG _ _) ⟨?_, trivial⟩
   rintro ws rfl
   exact VOK_lt (add_c (by omega) (by omega)) rfl (VOK_again rfl ⟨i + 1, hi, by rw [← nxt, ← List.append_assoc]; rfl, by omega⟩)
 have hi : i = x.length := by omega
 subst hi
 rw [List.take_length]
 exact VOK_fin (ok1I _) rfl
theorem P21_all : ∀ d : Nat, P21 d
 | 0 => p21 0 (fun e h => by omega)
 | d + 1 => p21 (d + 1) (fun e h => by cases h; exact P21_all d)
theorem p11 {x : GX} (hx : TX 5 x) (hl : (genE x).length ≤ 900000) : Pure Try.prog 11 [.agg (encX x)] (insts (genE x)) := by
 have h := e24 hx (l := []) (by simpa using hl)
 obtain ⟨e1, e2, e3, e4, e5, e6, e7, e8, e9, e10⟩ := x
 refine pure_shape (sh := [some 10]) (ls := encX (.mk e1 e2 e3 e4 e5 e6 e7 e8 e9 e10)) (c := c11) (n := 300) (t := t11) mo ov (by simp [flat, encX]) (okX _) (okC_noRef (okI _)) (fun Y _ => known0 _) rfl (by kernel_rfl) fun Y hf hg => ?_
 unfold t11
 refine callF' h rfl (okIX [] _) ⟨?_, trivial⟩
 rintro ws rfl
 exact VOK_done rfl
def genP (x : List GS) : List GI := genSs 0 x ++ [ins 23 0 0 0]
def pl (x : List GS) : AV := if (genP x).length ≤ 400 then insts (genP x) else .nsl
def pe (x : List GS) : Int := if (genP x).length ≤ 400 then 0 else 12
def progR (x : List GS) : AV := .tup [pl x, .int .i64 (pe x)]
theorem okPl (x : List GS) : okC (pl x) = true := by
 unfold pl
 split
 ·exact okI _
 ·rfl
theorem noRefR (x : List GS) : noRef (progR x) = true := by
 have := okC_noRef (okPl x); simp only [progR, noRef, noRefL, this]
theorem P21_nil (l : List GI) : CF Try.prog 21 ft21 [insts l, .vsl 0 27 []] (R24 l) := by
 refine cf_tree (c := c21) (n := 300) (t := t21) mo ov rfl (fun Y _ => known0 _) (by kernel_rfl) fun Y hf hg => ?_
 unfold t21
 refine VOK_lt (r := .int .i64 0) rfl rfl ?_
 refine VOK_loop (ι := Unit) (fun _ => [.int .i64 0, insts l]) (fun _ => True) (fun _ => 0) () trivial rfl (fun i _ => by simp only [okL, okC, okI]) (fun i j _ _ h => rfl) (fun i hi => ?_)
 exact VOK_lt (r := .bool false) rfl rfl (VOK_ite rfl (fun h => by cases h) (fun _ => VOK_fin (ok1I _) rfl))
theorem okIb (l : List GI) {b : AV} (hb : okC b = true) : okL [insts l, b] = true := by rw [okL_cons, okI]; simp only [okL, hb]; rfl
theorem p8 {d : Nat} {v b : AV} (hv : okC v = true) {x : List GS} (hs : SlV encS 27 x b) (h5 : x.length ≤ 5) (hx : ∀ s ∈ x, TS d s) (hl : (genSs 0 x).length ≤ 900000) : Pure Try.prog 8 [.agg [v, b]] (progR x) := by
 have hb := hs.ok okS
 have h : CF Try.prog 21 ft21 [insts [], b] (R24 ([] ++ genSs 0 x)) := by
  have h0 := P21_all d x [] h5 hx (by simpa using hl)
  rcases hs with h1 | ⟨rfl, rfl⟩
  ·subst h1
   cases x with
   | nil => exact P21_nil []
   | cons a r =>
     have e : vslOf encS 27 (a :: r) = encB (a :: r) := by rw [encB_eq]; rfl
     rw [e]; exact h0
  ·exact h0
 refine pure_shape (sh := [some 2]) (ls := [v, b]) (c := c8) (n := 300) (t := t8) mo ov rfl (by simp only [okL, hv, hb]) (noRefR x) (fun Y _ => known0 _) rfl (by kernel_rfl) fun Y hf hg => ?_
 unfold t8
 refine callF' h rfl (okIb [] hb) ⟨?_, trivial⟩
 rintro ws rfl
 refine callF' (p22' (i := ins 23 0 0 0) (l' := genP x) (by simpa using Nat.le_trans hl (by decide)) rfl) rfl (okIG _ _) ⟨?_, trivial⟩
 rintro ws rfl
 refine VOK_lt (run_len30 _) rfl ?_
 (refine it_c rfl rfl (fun h => ?_) (fun h => ?_) <;> simp only [Cmp, Decidable.not_not, Int.not_lt, Int.not_le] at h <;> try (exfalso; first | exact h trivial | omega))
 ·refine VOK_done ?_
  unfold progR pl pe
  rw [if_neg (by omega), if_neg (by omega)]; rfl
 ·refine VOK_done ?_
  unfold progR pl pe
  rw [if_pos (by omega), if_pos (by omega)]; rfl
end Go.Proofs.Ytjconanknjgpnaa.vars
set_option maxRecDepth 100000
set_option linter.unusedVariables false
set_option linter.unusedSimpArgs false
namespace Go.Proofs.Ytjconanknjgpnaa.vars
open Go Go.Sx
theorem genE5 {x : GX} (h : TX 5 x) : (genE x).length ≤ 31 := by have := genE_len h; omega
theorem genEs5 {l : List GX} (h : ∀ x ∈ l, TX 5 x) : (genEs l).length ≤ l.length * 31 := genEs_len (d := 0) fun x hx => genE5 (h x hx)
theorem genTo5 {x : GX} (h : TX 5 x) : (genTo x).length ≤ 63 := by
 obtain ⟨op, kd, nm, fd, ad, n, vk, vi, vf, args⟩ := x
 have hal : args.length ≤ 2 := by have := h.1; unfold Ari at this; omega
 have h2 : (genEs args).length ≤ args.length * 31 := genEs5 fun x hx => TX_mono (by decide) (h.2.2.2.2.2 x hx)
 simp only [genTo]
 split
 ·simp only [List.length_append, List.length_cons, List.length_nil]; omega
 ·simp
def szB : Nat → Nat
 | 0 => 0
 | d + 1 => 100 + 10 * szB d
theorem genSs_len {M : Nat} : ∀ {l : List GS} (b : Nat), (∀ s ∈ l, ∀ b, (genS b s).length ≤ M) → (genSs b l).length ≤ l.length * M
 | [], b, _ => by simp [genSs]
 | a :: r, b, h => by
   have h1 := h a (List.mem_cons_self ..) b
   have h2 := genSs_len (M := M) (l := r) (b + (genS b a).length) fun x hx => h x (List.mem_cons_of_mem _ hx)
   simp only [genSs, List.length_append, List.length_cons, Nat.add_mul, Nat.one_mul]; omega
theorem genS_len : ∀ (d : Nat) (s : GS), TS d s → ∀ b, (genS b s).length ≤ szB d
 | 0, _, h, _ => h.elim
 | d + 1, .mk op to e thn els nm kd ad args, h, b => by
   have ih := genS_len d
   simp only [genS, szB]
   rcases h with ⟨rfl, a1, a2, a3, a4⟩ | ⟨ho, b1, b2, b3, b4, b5, b6⟩ | ⟨rfl, c1, c2⟩
   ·have h1 := genE5 a3
    have h2 := genTo5 a1
    simp only [if_pos, List.length_append]; omega
   ·have h1 := genE5 b1
    have h2 : ∀ b, (genSs b thn).length ≤ thn.length * szB d := fun b => genSs_len b fun s hs => ih s (b5 s hs)
    have h3 : ∀ b, (genSs b els).length ≤ els.length * szB d := fun b => genSs_len b fun s hs => ih s (b6 s hs)
    have h4 : thn.length * szB d ≤ 5 * szB d := Nat.mul_le_mul_right _ b3
    have h5 : els.length * szB d ≤ 5 * szB d := Nat.mul_le_mul_right _ b4
    rcases ho with rfl | rfl
    ·rw [if_neg (by decide), if_pos rfl]
     have q1 := h2 (b + (genE e).length + 1)
     have q2 := h3 (b + (genE e).length + 1 + (genSs (b + (genE e).length + 1) thn).length + 1)
     split
     ·simp only [List.length_append, List.length_cons, List.length_nil]; omega
     ·simp only [List.length_append, List.length_cons, List.length_nil]; omega
    ·rw [if_neg (by decide), if_neg (by decide), if_pos rfl]
     have q1 := h2 (b + (genE e).length + 1)
     simp only [List.length_append, List.length_cons, List.length_nil]; omega
   ·have hal : args.length ≤ 2 := by
      rcases c1 with ⟨_, _, c1⟩ | ⟨_, _, c1⟩ | ⟨_, _, c1⟩ <;> (have := congrArg List.length c1; simp at this; omega)
    have h1 := genEs5 c2
    rw [if_neg (by decide), if_neg (by decide), if_neg (by decide)]
    simp only [List.length_append, List.length_cons, List.length_nil]; omega
theorem genSs3 {l : List GS} (h5 : l.length ≤ 5) (h : ∀ s ∈ l, TS 3 s) (b : Nat) : (genSs b l).length ≤ 60000 := by
 have h1 : (genSs b l).length ≤ l.length * szB 3 := genSs_len b fun s hs => genS_len 3 s (h s hs)
 have h2 : l.length * szB 3 ≤ 5 * szB 3 := Nat.mul_le_mul_right _ h5
 have h3 : szB 3 = 11100 := rfl
 omega
def sh (n : Nat) (i : GI) : GI := if i.op = 20 ∨ i.op = 21 then { i with ad := i.ad + n } else i
theorem instE_op {op kd ad n vk vi : Int} {vf : Nat} {args : List GX} (h : 1 ≤ op ∧ op ≤ 17) : (instE op kd ad n vk vi vf args).op ≤ 17 := by
 unfold instE
 split
 ·show (1 : Int) ≤ 17; decide
 split
 ·show (2 : Int) ≤ 17; decide
 split
 ·show (3 : Int) ≤ 17; decide
 split
 ·show (17 : Int) ≤ 17; decide
 ·exact h.2
theorem genE_op : ∀ (d : Nat) (x : GX), TX d x → ∀ i ∈ genE x, i.op ≤ 17
 | 0, _, h, _, _ => h.elim
 | d + 1, .mk op kd nm fd ad n vk vi vf args, h, i, hi => by
   have ih := genE_op d
   have hw : 1 ≤ op ∧ op ≤ 17 := by have := h.1; unfold Ari at this; omega
   have hs : ∀ l : List GX, (∀ x ∈ l, TX d x) → ∀ i ∈ genEs l, i.op ≤ 17 := fun l => by
    induction l with
    | nil => intro _ i hi; simp [genEs] at hi
    | cons a r ihr =>
      intro hl i hi
      simp only [genEs, List.mem_append] at hi
      rcases hi with hi | hi
      ·exact ih a (hl a (List.mem_cons_self ..)) i hi
      ·exact ihr (fun x hx => hl x (List.mem_cons_of_mem _ hx)) i hi
   simp only [genE, List.mem_append, List.mem_singleton] at hi
   rcases hi with hi | rfl
   ·exact hs args h.2.2.2.2.2 i hi
   ·exact instE_op hw
theorem genEs_op {l : List GX} {d : Nat} (hl : ∀ x ∈ l, TX d x) : ∀ i ∈ genEs l, i.op ≤ 17 := by
 induction l with
 | nil => intro i hi; simp [genEs] at hi
 | cons a r ihr =>
   intro i hi
   simp only [genEs, List.mem_append] at hi
   rcases hi with hi | hi
   ·exact genE_op d a (hl a (List.mem_cons_self ..)) i hi
   ·exact ihr (fun x hx => hl x (List.mem_cons_of_mem _ hx)) i hi
theorem sh_id {n : Nat} {l : List GI} (h : ∀ i ∈ l, i.op ≤ 19 ∨ 22 ≤ i.op) : l.map (sh n) = l := by
 refine (List.map_congr_left fun i hi => ?_).trans (List.map_id l)
 have := h i hi
 unfold sh
 rw [if_neg (by omega)]; rfl
theorem genTo_op {x : GX} (h : TX 5 x) : ∀ i ∈ genTo x, i.op ≤ 19 := by
 obtain ⟨op, kd, nm, fd, ad, n, vk, vi, vf, args⟩ := x
 intro i hi
 simp only [genTo] at hi
 split at hi
 ·rcases List.mem_append.1 hi with hi | hi
  ·have := genEs_op h.2.2.2.2.2 i hi; omega
  ·cases List.mem_singleton.1 hi; show (19 : Int) ≤ 19; decide
 ·cases List.mem_singleton.1 hi; show (18 : Int) ≤ 19; decide
theorem sh_jump (n : Nat) (op b : Int) (h : op = 20 ∨ op = 21) : sh n (ins op 0 b 0) = ins op 0 (b + n) 0 := by
 unfold sh
 exact if_pos (show (ins op 0 b 0).op = 20 ∨ (ins op 0 b 0).op = 21 from h)
theorem genS_set (b : Nat) (to e : GX) (thn els : List GS) (nm : List UInt8) (kd ad : Int) (args : List GX) : genS b (.mk 1 to e thn els nm kd ad args) = genE e ++ genTo to := by simp [genS]
theorem genS_if0 (b : Nat) (to e : GX) (thn : List GS) (nm : List UInt8) (kd ad : Int) (args : List GX) : genS b (.mk 2 to e thn [] nm kd ad args) = genE e ++ [ins 21 0 ((b + (genE e).length + 1 + (genSs (b + (genE e).length + 1) thn).length : Nat) : Int) 0] ++ genSs (b + (genE e).length + 1) thn := by simp [genS]
theorem genS_if1 (b : Nat) (to e : GX) (thn els : List GS) (nm : List UInt8) (kd ad : Int) (args : List GX) (h : els ≠ []) : genS b (.mk 2 to e thn els nm kd ad args) = genE e ++ [ins 21 0 ((b + (genE e).length + 1 + (genSs (b + (genE e).length + 1) thn).length + 1 : Nat) : Int) 0] ++ genSs (b + (genE e).length + 1) thn ++ [ins 20 0 ((b + (genE e).length + 1 + (genSs (b + (genE e).length + 1) thn).length + 1 + (genSs (b + (genE e).length + 1 + (genSs (b + (genE e).length + 1) thn).length + 1) els).length : Nat) : Int) 0] ++ genSs (b + (genE e).length + 1 + (genSs (b + (genE e).length + 1) thn).length + 1) els := by simp [genS, h]
theorem genS_wh (b : Nat) (to e : GX) (thn els : List GS) (nm : List UInt8) (kd ad : Int) (args : List GX) : genS b (.mk 3 to e thn els nm kd ad args) = genE e ++ [ins 21 0 ((b + (genE e).length + 1 + (genSs (b + (genE e).length + 1) thn).length + 1 : Nat) : Int) 0] ++ genSs (b + (genE e).length + 1) thn ++ [ins 20 0 (b : Int) 0] := by simp [genS]
theorem genS_call (b : Nat) (to e : GX) (thn els : List GS) (nm : List UInt8) (kd ad : Int) (args : List GX) : genS b (.mk 4 to e thn els nm kd ad args) = genEs args ++ [ins 22 kd ad (args.length : Int)] := by simp [genS]
theorem genSs_shift {n : Nat} : ∀ {l : List GS}, (∀ s ∈ l, ∀ b, genS (b + n) s = (genS b s).map (sh n)) → ∀ b, genSs (b + n) l = (genSs b l).map (sh n)
 | [], _, b => by simp [genSs]
 | a :: r, h, b => by
   have h1 := h a (List.mem_cons_self ..) b
   have h2 := genSs_shift (n := n) (l := r) (fun x hx => h x (List.mem_cons_of_mem _ hx)) (b + (genS b a).length)
   simp only [genSs, List.map_append]
   rw [h1, List.length_map, show b + n + (genS b a).length = b + (genS b a).length + n by omega, h2]
theorem genS_shift (n : Nat) : ∀ (d : Nat) (s : GS), TS d s → ∀ b, genS (b + n) s = (genS b s).map (sh n)
 | 0, _, h, _ => h.elim
 | d + 1, .mk op to e thn els nm kd ad args, h, b => by
   have ih := genS_shift n d
   rcases h with ⟨rfl, a1, a2, a3, a4⟩ | ⟨ho, b1, b2, b3, b4, b5, b6⟩ | ⟨rfl, c1, c2⟩
   ·rw [genS_set, genS_set]
    refine (sh_id fun i hi => ?_).symm
    rcases List.mem_append.1 hi with hi | hi
    ·have := genE_op 5 e a3 i hi; omega
    ·exact .inl (genTo_op a1 i hi)
   ·have hE : (genE e).map (sh n) = genE e := sh_id fun i hi => by have := genE_op 5 e b1 i hi; omega
    have hT : ∀ b, genSs (b + n) thn = (genSs b thn).map (sh n) := genSs_shift fun s hs => ih s (b5 s hs)
    have hL : ∀ b, genSs (b + n) els = (genSs b els).map (sh n) := genSs_shift fun s hs => ih s (b6 s hs)
    have e1 : b + n + (genE e).length + 1 = b + (genE e).length + 1 + n := by omega
    rcases ho with rfl | rfl
    ·by_cases hels : els = []
     ·subst hels
      rw [genS_if0, genS_if0, e1, hT, List.length_map]
      simp only [List.map_append, List.map_cons, List.map_nil, hE]
      rw [sh_jump n 21 _ (.inr rfl)]
      have x1 : ((b + (genE e).length + 1 + n + (genSs (b + (genE e).length + 1) thn).length : Nat) : Int) = ((b + (genE e).length + 1 + (genSs (b + (genE e).length + 1) thn).length : Nat) : Int) + (n : Int) := by omega
      rw [x1]
     ·rw [genS_if1 _ _ _ _ _ _ _ _ _ hels, genS_if1 _ _ _ _ _ _ _ _ _ hels, e1, hT, List.length_map]
      have e2 : b + (genE e).length + 1 + n + (genSs (b + (genE e).length + 1) thn).length + 1 = b + (genE e).length + 1 + (genSs (b + (genE e).length + 1) thn).length + 1 + n := by omega
      rw [e2, hL, List.length_map]
      simp only [List.map_append, List.map_cons, List.map_nil, hE]
      rw [sh_jump n 21 _ (.inr rfl), sh_jump n 20 _ (.inl rfl)]
      have x1 : ((b + (genE e).length + 1 + (genSs (b + (genE e).length + 1) thn).length + 1 + n : Nat) : Int) = ((b + (genE e).length + 1 + (genSs (b + (genE e).length + 1) thn).length + 1 : Nat) : Int) + (n : Int) := by omega
      have x2 : ((b + (genE e).length + 1 + (genSs (b + (genE e).length + 1) thn).length + 1 + n + (genSs (b + (genE e).length + 1 + (genSs (b + (genE e).length + 1) thn).length + 1) els).length : Nat) : Int) = ((b + (genE e).length + 1 + (genSs (b + (genE e).length + 1) thn).length + 1 + (genSs (b + (genE e).length + 1 + (genSs (b + (genE e).length + 1) thn).length + 1) els).length : Nat) : Int) + (n : Int) := by omega
      rw [x1, x2]
    ·rw [genS_wh, genS_wh, e1, hT, List.length_map]
     simp only [List.map_append, List.map_cons, List.map_nil, hE]
     rw [sh_jump n 21 _ (.inr rfl), sh_jump n 20 _ (.inl rfl)]
     have x1 : ((b + (genE e).length + 1 + n + (genSs (b + (genE e).length + 1) thn).length + 1 : Nat) : Int) = ((b + (genE e).length + 1 + (genSs (b + (genE e).length + 1) thn).length + 1 : Nat) : Int) + (n : Int) := by omega
     have x2 : ((b + n : Nat) : Int) = (b : Int) + (n : Int) := by omega
     rw [x1, x2]
   ·rw [genS_call, genS_call]
    refine (sh_id fun i hi => ?_).symm
    rcases List.mem_append.1 hi with hi | hi
    ·have := genEs_op c2 i hi; omega
    ·cases List.mem_singleton.1 hi; exact .inr (by show (22 : Int) ≤ 22; decide)
def GOk (m : Nat) (i : GI) : Prop := Flt4 i.vf ∧ (i.op = 20 ∨ i.op = 21 → 0 ≤ i.ad ∧ i.ad ≤ m)
theorem GOk.mono {m k : Nat} {i : GI} (h : GOk m i) (hk : m ≤ k) : GOk k i := ⟨h.1, fun ho => by have := h.2 ho; omega⟩
theorem genE_ok : ∀ (d : Nat) (x : GX), TX d x → ∀ i ∈ genE x, Flt4 i.vf
 | 0, _, h, _, _ => h.elim
 | d + 1, .mk op kd nm fd ad n vk vi vf args, h, i, hi => by
   have ih := genE_ok d
   have hs : ∀ l : List GX, (∀ x ∈ l, TX d x) → ∀ i ∈ genEs l, Flt4 i.vf := fun l => by
    induction l with
    | nil => intro _ i hi; simp [genEs] at hi
    | cons a r ihr =>
      intro hl i hi
      simp only [genEs, List.mem_append] at hi
      rcases hi with hi | hi
      ·exact ih a (hl a (List.mem_cons_self ..)) i hi
      ·exact ihr (fun x hx => hl x (List.mem_cons_of_mem _ hx)) i hi
   simp only [genE, List.mem_append, List.mem_singleton] at hi
   rcases hi with hi | rfl
   ·exact hs args h.2.2.2.2.2 i hi
   ·unfold instE
    split
    ·exact h.2.1
    repeat' (first | (split; exact .inl rfl) | exact .inl rfl)
theorem genEs_ok {l : List GX} {d : Nat} (hl : ∀ x ∈ l, TX d x) : ∀ i ∈ genEs l, Flt4 i.vf := by
 induction l with
 | nil => intro i hi; simp [genEs] at hi
 | cons a r ihr =>
   intro i hi
   simp only [genEs, List.mem_append] at hi
   rcases hi with hi | hi
   ·exact genE_ok d a (hl a (List.mem_cons_self ..)) i hi
   ·exact ihr (fun x hx => hl x (List.mem_cons_of_mem _ hx)) i hi
theorem ins_ok {m : Nat} {op kd ad n : Int} (h : op = 20 ∨ op = 21 → 0 ≤ ad ∧ ad ≤ m) : GOk m (ins op kd ad n) := ⟨.inl rfl, h⟩
theorem genE_gok {m : Nat} {x : GX} (h : TX 5 x) : ∀ i ∈ genE x, GOk m i := fun i hi => ⟨genE_ok 5 x h i hi, fun ho => by have := genE_op 5 x h i hi; omega⟩
theorem genTo_gok {m : Nat} {x : GX} (h : TX 5 x) : ∀ i ∈ genTo x, GOk m i := by
 intro i hi
 refine ⟨?_, fun ho => by have := genTo_op h i hi; omega⟩
 obtain ⟨op, kd, nm, fd, ad, n, vk, vi, vf, args⟩ := x
 simp only [genTo] at hi
 split at hi
 ·rcases List.mem_append.1 hi with hi | hi
  ·exact genEs_ok h.2.2.2.2.2 i hi
  ·cases List.mem_singleton.1 hi; exact .inl rfl
 ·cases List.mem_singleton.1 hi; exact .inl rfl
theorem genSs_gok : ∀ {l : List GS}, (∀ s ∈ l, ∀ b, ∀ i ∈ genS b s, GOk (b + (genS b s).length) i) → ∀ b, ∀ i ∈ genSs b l, GOk (b + (genSs b l).length) i
 | [], _, b, i, hi => by simp [genSs] at hi
 | a :: r, h, b, i, hi => by
   have h1 := h a (List.mem_cons_self ..) b
   have h2 := genSs_gok (l := r) (fun x hx => h x (List.mem_cons_of_mem _ hx)) (b + (genS b a).length)
   simp only [genSs, List.length_append, List.mem_append] at hi ⊢
   rcases hi with hi | hi
   ·exact (h1 i hi).mono (by omega)
   ·exact (h2 i hi).mono (by omega)
theorem genS_gok : ∀ (d : Nat) (s : GS), TS d s → ∀ b, ∀ i ∈ genS b s, GOk (b + (genS b s).length) i
 | 0, _, h, _, _, _ => h.elim
 | d + 1, .mk op to e thn els nm kd ad args, h, b, i, hi => by
   have ih := genS_gok d
   rcases h with ⟨rfl, a1, a2, a3, a4⟩ | ⟨ho, b1, b2, b3, b4, b5, b6⟩ | ⟨rfl, c1, c2⟩
   ·rw [genS_set] at hi ⊢
    rcases List.mem_append.1 hi with hi | hi
    ·exact genE_gok a3 i hi
    ·exact genTo_gok a1 i hi
   ·have hT : ∀ b, ∀ i ∈ genSs b thn, GOk (b + (genSs b thn).length) i := genSs_gok fun s hs => ih s (b5 s hs)
    have hL : ∀ b, ∀ i ∈ genSs b els, GOk (b + (genSs b els).length) i := genSs_gok fun s hs => ih s (b6 s hs)
    rcases ho with rfl | rfl
    ·by_cases hels : els = []
     ·subst hels
      rw [genS_if0] at hi ⊢
      simp only [List.mem_append, List.mem_singleton, List.length_append, List.length_cons, List.length_nil] at hi ⊢
      rcases hi with (hi | rfl) | hi
      ·exact genE_gok b1 i hi
      ·exact ins_ok fun _ => by omega
      ·exact (hT _ i hi).mono (by omega)
     ·rw [genS_if1 _ _ _ _ _ _ _ _ _ hels] at hi ⊢
      simp only [List.mem_append, List.mem_singleton, List.length_append, List.length_cons, List.length_nil] at hi ⊢
      rcases hi with (((hi | rfl) | hi) | rfl) | hi
      ·exact genE_gok b1 i hi
      ·exact ins_ok fun _ => by omega
      ·exact (hT _ i hi).mono (by omega)
      ·exact ins_ok fun _ => by omega
      ·exact (hL _ i hi).mono (by omega)
    ·rw [genS_wh] at hi ⊢
     simp only [List.mem_append, List.mem_singleton, List.length_append, List.length_cons, List.length_nil] at hi ⊢
     rcases hi with ((hi | rfl) | hi) | rfl
     ·exact genE_gok b1 i hi
     ·exact ins_ok fun _ => by omega
     ·exact (hT _ i hi).mono (by omega)
     ·exact ins_ok fun _ => by omega
   ·rw [genS_call] at hi ⊢
    rcases List.mem_append.1 hi with hi | hi
    ·exact ⟨genEs_ok c2 i hi, fun ho => by have := genEs_op c2 i hi; omega⟩
    ·cases List.mem_singleton.1 hi; exact ins_ok fun ho => by omega
theorem genP_gok {x : List GS} {d : Nat} (hx : ∀ s ∈ x, TS d s) : ∀ i ∈ genP x, GOk (genP x).length i := by
 intro i hi
 simp only [genP, List.mem_append, List.mem_singleton, List.length_append, List.length_cons, List.length_nil] at hi ⊢
 rcases hi with hi | rfl
 ·exact (genSs_gok (fun s hs => genS_gok d s (hx s hs)) 0 i hi).mono (by omega)
 ·exact ins_ok fun ho => by omega
theorem genP_parts {a b : List GS} {d : Nat} (hb : ∀ s ∈ b, TS d s) : genP (a ++ b) = genSs 0 a ++ (genP b).map (sh (genSs 0 a).length) := by
 have h := genSs_shift (n := (genSs 0 a).length) (l := b) (fun s hs => genS_shift _ d s (hb s hs)) 0
 rw [Nat.zero_add] at h
 simp only [genP, genSs_app, Nat.zero_add, h, List.map_append, List.map_cons, List.map_nil, List.append_assoc]
 congr 3
end Go.Proofs.Ytjconanknjgpnaa.vars
