/-
  A program of numbers, checked.
-/
import Derived.Test.YtjconanknjgpnaaV5
set_option maxRecDepth 100000
set_option linter.unusedVariables false
set_option linter.unusedSimpArgs false
namespace Go.Proofs.Ytjconanknjgpnaa.vars
open Go Go.Sx
def c19 : VC := ⟨⟨[], []⟩, [(37, [none])], [], 1, true, [(38, ft38)]⟩
def t19 : VT :=
 (.call 37 [] 66 [none]
 (.callF 38 ft38 [.sym 64, .sym 65, .int .i64 5, .int .i64 2] 67
 (.cons 2
 (.done (.tup [.int .i64 0, .sym 66, .sym 71, .sym 72]))
 .nil)))
def c18 : VC := ⟨⟨[], []⟩, [], [], 0, true, []⟩
def t18 : VT :=
 (.done (.tup [.int .i64 0]))
def c17 : VC := ⟨⟨[], []⟩, [(35, [none])], [], 0, true, [(36, ft36)]⟩
def t17 : VT :=
 (.call 35 [.sym 64] 66 [none]
 (.lt (.bin .neq 31 false true) [.sym 66, .int .i64 0] 67 none
 (.ite 67
 (.done (.tup [.int .i64 0, .nsl, .nsl, .sym 66]))
 (.callF 36 ft36 [.sym 64, .sym 65] 68
 (.cons 2
 (.lt (.bin .neq 31 false true) [.sym 71, .int .i64 0] 72 none
 (.ite 72
 (.done (.tup [.int .i64 0, .nsl, .nsl, .sym 71]))
 (.lt (.app 10 88) [.vsl 0 10 [], .sym 64] 73 none
 (.done (.tup [.int .i64 0, .sym 73, .sym 70, .int .i64 0])))))
 .nil)))))
def c7 : VC := ⟨⟨[], []⟩, [], [], 0, true, [(18, ft18), (19, ft19), (17, ft17)]⟩
def t7 : VT :=
 (.callF 18 ft18 [.sym 64] 65
 (.cons 0
 (.callF 19 ft19 [.sym 64, .int .i64 0] 66
 (.cons 3
 (.callF 17 ft17 [.sym 68, .sym 69] 71
 (.cons 3
 (.lt (.bin .eql 31 false true) [.sym 75, .int .i64 0] 76 none
 (.done (.tup [.int .i64 0, .sym 73, .sym 74, .sym 76])))
 .nil))
 .nil))
 .nil))
def R19 (l : List UInt8) : Nat → List AV → Prop := fun _ ws => ∃ (b : List GS) (n : Nat), ws = [VARS, encB b, .int .i64 (n : Int)] ∧ b.length ≤ 5 ∧ ∀ s ∈ b, WS 3 s
theorem p19 {l : List UInt8} {a : AV} (hp : Pk l a) : CF Try.prog 19 ft19 [a, .int .i64 0] (R19 l) := by
 have hA := hp.1.ok okC8
 refine cf_tree (c := c19) (n := 300) (t := t19) mo ov rfl (fun Y _ => known0 _) (by kernel_rfl) fun Y hf hg => ?_
 unfold t19
 refine VOK_call k37 rfl rfl ?_
 refine callF' ((pS hp 2 (by decide)).2 0 5 (Nat.zero_le _) (by decide) (by decide)) rfl (okR hA) ⟨?_, trivial⟩
 rintro ws ⟨b, n, rfl, ⟨h1, h2⟩, h3⟩
 exact VOK_fin (by show okL [VARS, encB b, .int .i64 (n : Int)] = true; rw [okL_cons]; simp only [okL, okC, okB]; rfl) ⟨b, n, rfl, h1, h2⟩
theorem p18 (a : AV) (h : okC a = true) : CF Try.prog 18 ft18 [a] (fun _ ws => ws = []) := by
 refine cf_tree (c := c18) (n := 300) (t := t18) mo ov rfl (fun Y _ => known0 _) (by kernel_rfl) fun Y hf hg => ?_
 unfold t18
 exact VOK_fin rfl rfl
def RC : Nat → List AV → Prop := fun _ ws => ∃ (v : AV) (b : List GS) (e : Int), ws = [v, encB b, .int .i64 e] ∧ okC v = true ∧ (e = 0 → v = VARS ∧ b.length ≤ 5 ∧ ∀ s ∈ b, TS 3 s)
theorem okVBI {v : AV} (hv : okC v = true) (b : List GS) {x : AV} (hx : okC x = true) : okL [v, encB b, x] = true := by simp only [okL, hv, okB, hx]
theorem p17 (b : List GS) (hl : b.length ≤ 5) (h : ∀ s ∈ b, WS 3 s) : CF Try.prog 17 ft17 [VARS, encB b] RC := by
 refine cf_tree (c := c17) (n := 300) (t := t17) mo ov rfl (fun Y _ => known0 _) (by kernel_rfl) fun Y hf hg => ?_
 unfold t17
 refine VOK_call k35 rfl rfl ?_
 (refine it_c rfl rfl (fun h => ?_) (fun h => ?_) <;> simp only [Cmp, Decidable.not_not, Int.not_lt, Int.not_le] at h <;> try (exfalso; first | exact h trivial | omega))
 refine callF' (p36 3 (p63 3) b hl (by assumption)) rfl (okVB _) ⟨?_, trivial⟩
 rintro ws ⟨b', e, rfl, hb⟩
 (refine it_c rfl rfl (fun h => ?_) (fun h => ?_) <;> simp only [Cmp, Decidable.not_not, Int.not_lt, Int.not_le] at h <;> try (exfalso; first | exact h trivial | omega))
 ·exact VOK_fin rfl ⟨.nsl, [], e, rfl, rfl, fun he => absurd he (by assumption)⟩
 ·have hb := hb (by assumption)
  refine VOK_lt (r := VARS) rfl rfl (VOK_fin (okVBI (v := VARS) rfl b' (x := .int .i64 0) rfl) ⟨VARS, b', 0, rfl, rfl, fun _ => ⟨rfl, by omega, hb.2⟩⟩)
def R7 : Nat → List AV → Prop := fun _ ws => ∃ (v : AV) (b : List GS) (e : Bool), ws = [v, encB b, .bool e] ∧ okC v = true ∧ (e = true → v = VARS ∧ b.length ≤ 5 ∧ ∀ s ∈ b, TS 3 s)
theorem p7 {l : List UInt8} {a : AV} (hp : Pk l a) : CF Try.prog 7 ft7 [a] R7 := by
 have hA := hp.1.ok okC8
 refine cf_tree (c := c7) (n := 300) (t := t7) mo ov rfl (fun Y _ => known0 _) (by kernel_rfl) fun Y hf hg => ?_
 unfold t7
 refine callF' (p18 a hA) rfl (by simp only [okL, hA]) ⟨?_, trivial⟩
 rintro ws rfl
 refine callF' (p19 hp) rfl (by simp only [okL, hA, okC]) ⟨?_, trivial⟩
 rintro ws ⟨b, n, rfl, h1, h2⟩
 refine callF' (p17 b h1 h2) rfl (okVB _) ⟨?_, trivial⟩
 rintro ws ⟨v, b', e, rfl, hv, hb⟩
 refine VOK_lt (run_eql ..) rfl (VOK_fin (okVBI hv b' (x := .bool _) rfl) ⟨v, b', decide (e = 0), rfl, hv, fun he => hb (of_decide_eq_true he)⟩)
end Go.Proofs.Ytjconanknjgpnaa.vars
set_option maxRecDepth 100000
set_option linter.unusedVariables false
set_option linter.unusedSimpArgs false
namespace Go.Proofs.Ytjconanknjgpnaa.vars
open Go Go.Sx
structure GI where
 op : Int
 kd : Int
 ad : Int
 n : Int
 vk : Int
 vi : Int
 vf : Nat
def encG (i : GI) : List AV := [.int .i64 i.op, .int .i64 i.kd, .int .i64 i.ad, .int .i64 i.n, .int .i64 i.vk, .int .i64 i.vi, .flt .f64 i.vf]
theorem lenG (i : GI) : (encG i).length = 7 := rfl
theorem okG (i : GI) : okL (encG i) = true := rfl
abbrev insts (l : List GI) : AV := sliceOf encG 7 l
theorem okI (l : List GI) : okC (insts l) = true := sliceOf_ok okG l
def ins (op kd ad n : Int) : GI := ⟨op, kd, ad, n, 0, 0, 0⟩
def kd0 : List GX → Int
 | [] => 0
 | a :: _ => a.kd
def instE (op kd ad n vk vi : Int) (vf : Nat) (args : List GX) : GI :=
 if op = 1 then ⟨1, vk, 0, 0, vk, vi, vf⟩ else if op = 2 then ins 2 0 ad 0 else if op = 3 then ins 3 0 ad n else if op = 17 then ins 17 kd 0 (kd0 args) else ins op (kd0 args) 0 0
mutual
def genE : GX → List GI
 | .mk op kd nm fd ad n vk vi vf args => genEs args ++ [instE op kd ad n vk vi vf args]
def genEs : List GX → List GI
 | [] => []
 | a :: r => genE a ++ genEs r
end
theorem genEs_app : ∀ a b : List GX, genEs (a ++ b) = genEs a ++ genEs b
 | [], b => rfl
 | x :: a, b => by simp only [List.cons_append, genEs, genEs_app a b, List.append_assoc]
theorem genEs_len {d : Nat} {M : Nat} : ∀ {l : List GX}, (∀ x ∈ l, (genE x).length ≤ M) → (genEs l).length ≤ l.length * M
 | [], _ => by simp [genEs]
 | a :: r, h => by
   have h1 := h a (List.mem_cons_self ..)
   have h2 := genEs_len (d := d) (M := M) (l := r) fun x hx => h x (List.mem_cons_of_mem _ hx)
   simp only [genEs, List.length_append, List.length_cons, Nat.add_mul, Nat.one_mul]; omega
theorem genE_len : ∀ {d : Nat} {x : GX}, TX d x → (genE x).length + 1 ≤ 2 ^ d
 | 0, _, h => h.elim
 | d + 1, .mk op kd nm fd ad n vk vi vf args, ⟨h1, _, _, _, _, h6⟩ => by
   have hl : args.length ≤ 2 := by unfold Ari at h1; omega
   have hp : 1 ≤ 2 ^ d := Nat.one_le_two_pow
   have := genEs_len (d := d) (M := 2 ^ d - 1) (l := args) fun x hx => by have := genE_len (h6 x hx); omega
   have h2 : args.length * (2 ^ d - 1) ≤ 2 * (2 ^ d - 1) := Nat.mul_le_mul_right _ hl
   simp only [genE, List.length_append, List.length_cons, List.length_nil, Nat.pow_succ]; omega
def genTo : GX → List GI
 | .mk op _ _ _ ad n _ _ _ args => if op = 3 then genEs args ++ [ins 19 0 ad n] else [ins 18 0 ad 0]
mutual
def genS : Nat → GS → List GI
 | b, .mk op to e thn els nm kd ad args =>
   if op = 1 then genE e ++ genTo to
   else if op = 2 then
    let c := genE e
    let t := genSs (b + c.length + 1) thn
    if els = [] then c ++ [ins 21 0 ((b + c.length + 1 + t.length : Nat) : Int) 0] ++ t
    else
     let q := genSs (b + c.length + 1 + t.length + 1) els
     c ++ [ins 21 0 ((b + c.length + 1 + t.length + 1 : Nat) : Int) 0] ++ t ++ [ins 20 0 ((b + c.length + 1 + t.length + 1 + q.length : Nat) : Int) 0] ++ q
   else if op = 3 then
    let c := genE e
    let t := genSs (b + c.length + 1) thn
    c ++ [ins 21 0 ((b + c.length + 1 + t.length + 1 : Nat) : Int) 0] ++ t ++ [ins 20 0 (b : Int) 0]
   else genEs args ++ [ins 22 kd ad (args.length : Int)]
def genSs : Nat → List GS → List GI
 | _, [] => []
 | b, s :: r => genS b s ++ genSs (b + (genS b s).length) r
end
def c22 : VC := ⟨⟨[], []⟩, [], [], 1, true, []⟩
def t22 : VT :=
 (.lt (.app 7 56) [.sym 64, .agg [.sym 65, .sym 66, .sym 67, .sym 68, .sym 69, .sym 70, .sym 71]] 72 none
 (.lt (.len 30) [.sym 72] 73 none
 (.lt (.bin .sub 3 false true) [.sym 73, .int .i64 1] 74 none
 (.done (.tup [.int .i64 0, .sym 74, .sym 72])))))
def c24 : VC := ⟨⟨[], []⟩, [], [(0, [⟨[(10, .slx 0 0 0), (0, .ptr 0 0), (8, .sym 74), (3, .ptr 2 0), (9, .sym 75)], [(0, [.slx 3 7 1]), (2, [.sym 65, .sym 66, .sym 67, .sym 68, .sym 69, .sym 70, .sym 71, .sym 72, .sym 73, .sym 74])], 4, 2, [⟨3, 7, 1, 0, (some 0)⟩], [], []⟩])], 1, true, [(24, ft24), (22, ft22)]⟩
def t24 : VT :=
 (.lt (.len 38) [.sym 74] 75 none
 (.loop 76 0 [.int .i64 0, .sym 64]
 (.cons 2
 (.lt (.bin .lss 3 false false) [.sym 76, .sym 75] 78 none
 (.ite 78
 (.lt (.iaddr 38) [.sym 74, .sym 76] 79 none
 (.lt (.load 40) [.sym 79] 80 (some 10)
 (.callF 24 ft24 [.sym 77, .sym 80, .sym 81, .sym 82, .sym 83, .sym 84, .sym 85, .sym 86, .sym 87, .sym 88, .sym 89] 90
 (.cons 1
 (.lt (.bin .add 3 false true) [.sym 76, .int .i64 1] 102 none
 (.again 0 0 [.sym 102, .sym 101]))
 .nil))))
 (.lt (.bin .eql 3 false true) [.sym 65, .int .i64 1] 79 none
 (.ite 79
 (.callF 22 ft22 [.sym 77, .int .i64 1, .sym 71, .int .i64 0, .int .i64 0, .sym 71, .sym 72, .sym 73] 80
 (.cons 2
 (.done (.tup [.int .i64 0, .sym 89]))
 .nil))
 (.lt (.bin .eql 3 false true) [.sym 65, .int .i64 2] 80 none
 (.ite 80
 (.callF 22 ft22 [.sym 77, .int .i64 2, .int .i64 0, .sym 69, .int .i64 0, .int .i64 0, .int .i64 0, .flt .f64 0] 81
 (.cons 2
 (.done (.tup [.int .i64 0, .sym 90]))
 .nil))
 (.lt (.bin .eql 3 false true) [.sym 65, .int .i64 3] 81 none
 (.ite 81
 (.callF 22 ft22 [.sym 77, .int .i64 3, .int .i64 0, .sym 69, .sym 70, .int .i64 0, .int .i64 0, .flt .f64 0] 82
 (.cons 2
 (.done (.tup [.int .i64 0, .sym 91]))
 .nil))
 (.lt (.bin .eql 3 false true) [.sym 65, .int .i64 17] 82 none
 (.ite 82
 (.lt (.len 38) [.sym 74] 83 none
 (.lt (.bin .gtr 3 false true) [.sym 83, .int .i64 0] 84 none
 (.ite 84
 (.lt (.iaddr 38) [.sym 74, .int .i64 0] 85 none
 (.lt (.faddr 40 1) [.sym 85] 86 none
 (.lt (.load 3) [.sym 86] 87 none
 (.callF 22 ft22 [.sym 77, .int .i64 17, .sym 66, .int .i64 0, .sym 87, .int .i64 0, .int .i64 0, .flt .f64 0] 88
 (.cons 2
 (.done (.tup [.int .i64 0, .sym 97]))
 .nil)))))
 (.callF 22 ft22 [.sym 77, .int .i64 17, .sym 66, .int .i64 0, .int .i64 0, .int .i64 0, .int .i64 0, .flt .f64 0] 85
 (.cons 2
 (.done (.tup [.int .i64 0, .sym 94]))
 .nil)))))
 (.lt (.len 38) [.sym 74] 83 none
 (.lt (.bin .gtr 3 false true) [.sym 83, .int .i64 0] 84 none
 (.ite 84
 (.lt (.iaddr 38) [.sym 74, .int .i64 0] 85 none
 (.lt (.faddr 40 1) [.sym 85] 86 none
 (.lt (.load 3) [.sym 86] 87 none
 (.callF 22 ft22 [.sym 77, .sym 65, .sym 87, .int .i64 0, .int .i64 0, .int .i64 0, .int .i64 0, .flt .f64 0] 88
 (.cons 2
 (.done (.tup [.int .i64 0, .sym 97]))
 .nil)))))
 (.callF 22 ft22 [.sym 77, .sym 65, .int .i64 0, .int .i64 0, .int .i64 0, .int .i64 0, .int .i64 0, .flt .f64 0] 85
 (.cons 2
 (.done (.tup [.int .i64 0, .sym 94]))
 .nil)))))))))))))))
 .nil)))
theorem run_app7 (l : List GI) (i : GI) (hl : l.length ≤ 1000000) : (XOp.app 7 56).run Try.prog [insts l, .agg (encG i)] = some (insts (l ++ [i])) := run_app_sl lenG (by decide) (by decide) l i (by omega)
theorem run_len30 (l : List GI) : (XOp.len 30).run Try.prog [insts l] = some (.int .i64 (l.length : Int)) := run_len_sl Try.underlying30 l
def R22 (l : List GI) (i : GI) : Nat → List AV → Prop := fun _ ws => ws = [.int .i64 (l.length : Int), insts (l ++ [i])]
theorem okIG (l : List GI) (i : GI) : okL (insts l :: encG i) = true := by rw [okL_cons, okI]; rfl
theorem p22 (l : List GI) (i : GI) (hl : l.length ≤ 1000000) : CF Try.prog 22 ft22 (insts l :: encG i) (R22 l i) := by
 refine cf_tree (c := c22) (n := 300) (t := t22) mo ov rfl (fun Y _ => known0 _) (by kernel_rfl) fun Y hf hg => ?_
 unfold t22
 refine VOK_lt (run_app7 l i hl) (okI _) (VOK_lt (run_len30 _) rfl (VOK_lt (sub_c (z := (l.length : Int)) (by simp) (by omega) (by omega)) rfl (VOK_fin ?_ rfl)))
 show okL [.int .i64 (l.length : Int), insts (l ++ [i])] = true
 simp only [okL, okC, okI]
def R24 (l : List GI) : Nat → List AV → Prop := fun _ ws => ws = [insts l]
theorem okIX (l : List GI) (x : GX) : okL (insts l :: encX x) = true := by rw [okL_cons, okI]; exact okX x
theorem ok1I (l : List GI) : okL [insts l] = true := by simp only [okL, okI]
theorem p24 : ∀ (d : Nat) (x : GX), d ≤ 10 → TX d x → ∀ l : List GI, l.length + (genE x).length ≤ 900000 → CF Try.prog 24 ft24 (insts l :: encX x) (R24 (l ++ genE x))
 | 0, _, _, h, _, _ => h.elim
 | d + 1, .mk op kd nm fd ad n vk vi vf args, hd, hx, l, hl => by
   obtain ⟨h1, _, _, _, _, h6⟩ := hx
   have hal : args.length ≤ 2 := by unfold Ari at h1; omega
   have hgl : (genE (.mk op kd nm fd ad n vk vi vf args)).length = (genEs args).length + 1 := by simp only [genE, List.length_append, List.length_cons, List.length_nil]
   have hE : ∀ i, (genEs (args.take i)).length ≤ (genEs args).length := fun i => by
    have := congrArg List.length (genEs_app (args.take i) (args.drop i))
    rw [List.take_append_drop, List.length_append] at this
    omega
   refine cf_tree (c := c24) (n := 300) (t := t24) mo ov rfl (fun Y _ => known0 _) (by kernel_rfl) fun Y hf hg => ?_
   unfold t24
   refine VOK_lt (run_len38 args) rfl ?_
   refine VOK_loop (ι := Nat) (fun i => [.int .i64 (i : Int), insts (l ++ genEs (args.take i))]) (fun i => i ≤ args.length) (fun i => args.length - i) 0 (Nat.zero_le _) (by simp [genEs]; rfl) (fun i _ => by simp only [okL, okC, okI]) (fun i j _ _ h => by simp at h; omega) (fun i hi => ?_)
   (refine it_c rfl rfl (fun h => ?_) (fun h => ?_) <;> simp only [Cmp, Decidable.not_not, Int.not_lt, Int.not_le] at h <;> try (exfalso; first | exact h trivial | omega))
   ·have hi : i < args.length := by omega
    have hld := run_ld40 args hi
    have hg : genEs (args.take (i + 1)) = genEs (args.take i) ++ genE args[i] := by
     rw [List.take_succ_eq_append_getElem hi, genEs_app]; simp only [genEs, List.append_nil]
    have hz := p24 d args[i] (by omega) (h6 _ (List.getElem_mem hi)) (l ++ genEs (args.take i)) (by
     have := hE (i + 1)
     rw [hg, List.length_append] at this
     rw [List.length_append]; omega)
    rcases hzz : args[i] with ⟨zo, zk, znm, zfd, zad, zn, zvk, zvi, zvf, za⟩
    rw [hzz] at hld hz hg
    refine VOK_lt (run_ia38 args hi) (encL_ok okX _) (VOK_ltN hld rfl (okX _) ?_)
    refine callF' hz rfl (okIX _ _) ⟨?_, trivial⟩
    rintro ws rfl
    refine VOK_lt (add_c (by omega) (by omega)) rfl (VOK_again rfl ⟨i + 1, hi, ?_, by omega⟩)
    rw [hg, ← List.append_assoc]; rfl
   have hi : i = args.length := by omega
   subst hi
   rw [List.take_length]
   have hlen : (l ++ genEs args).length ≤ 900000 := by
    rw [List.length_append]; omega
   have fin : ∀ i : GI, instE op kd ad n vk vi vf args = i → R24 (l ++ genE (.mk op kd nm fd ad n vk vi vf args)) 0 [insts (l ++ genEs args ++ [i])] := fun i hi => by
    show _ = _
    simp only [genE, hi, List.append_assoc]
   (refine it_c rfl rfl (fun h => ?_) (fun h => ?_) <;> simp only [Cmp, Decidable.not_not, Int.not_lt, Int.not_le] at h <;> try (exfalso; first | exact h trivial | omega))
   ·(
      refine callF' (p22 _ ⟨1, vk, 0, 0, vk, vi, vf⟩ (by omega)) rfl (okIG _ _) ⟨?_, trivial⟩
      rintro ws rfl
      refine VOK_fin (ok1I _) ?_)
    exact fin _ (by unfold instE; rw [if_pos h])
   (refine it_c rfl rfl (fun h => ?_) (fun h => ?_) <;> simp only [Cmp, Decidable.not_not, Int.not_lt, Int.not_le] at h <;> try (exfalso; first | exact h trivial | omega))
   ·(
      refine callF' (p22 _ (ins 2 0 ad 0) (by omega)) rfl (okIG _ _) ⟨?_, trivial⟩
      rintro ws rfl
      refine VOK_fin (ok1I _) ?_)
    exact fin _ (by unfold instE; rw [if_neg (by omega), if_pos h])
   (refine it_c rfl rfl (fun h => ?_) (fun h => ?_) <;> simp only [Cmp, Decidable.not_not, Int.not_lt, Int.not_le] at h <;> try (exfalso; first | exact h trivial | omega))
   ·(
      refine callF' (p22 _ (ins 3 0 ad n) (by omega)) rfl (okIG _ _) ⟨?_, trivial⟩
      rintro ws rfl
      refine VOK_fin (ok1I _) ?_)
    exact fin _ (by unfold instE; rw [if_neg (by omega), if_neg (by omega), if_pos h])
   have h0 : 1 ≤ args.length := by unfold Ari at h1; omega
   obtain ⟨y, r, rfl⟩ : ∃ y r, args = y :: r := by
    cases args with
    | nil => simp at h0
    | cons y r => exact ⟨y, r, rfl⟩
   obtain ⟨y1, y2, y3, y4, y5, y6, y7, y8, y9, y10⟩ := y
   (refine it_c rfl rfl (fun h => ?_) (fun h => ?_) <;> simp only [Cmp, Decidable.not_not, Int.not_lt, Int.not_le] at h <;> try (exfalso; first | exact h trivial | omega))
   ·refine VOK_lt (run_len38 _) rfl ?_
    (refine it_c rfl rfl (fun h => ?_) (fun h => ?_) <;> simp only [Cmp, Decidable.not_not, Int.not_lt, Int.not_le] at h <;> try (exfalso; first | exact h trivial | omega))
    refine VOK_lt (r := .vptr (encX (.mk y1 y2 y3 y4 y5 y6 y7 y8 y9 y10) ++ encXs r)) rfl (by show okL _ = true; exact encL_ok.okL_join (okX _) (okXs _)) ?_
    refine VOK_lt (r := .vptr ([.int .i64 y2, .str y3, .str y4, .int .i64 y5, .int .i64 y6, .int .i64 y7, .int .i64 y8, .flt .f64 y9, encA y10] ++ encXs r)) rfl (by show okL _ = true; exact encL_ok.okL_join (by simp only [okC, okL, okA]) (okXs _)) (VOK_lt (r := .int .i64 y2) rfl rfl ?_)
    (
     refine callF' (p22 _ (ins 17 kd 0 y2) (by omega)) rfl (okIG _ _) ⟨?_, trivial⟩
     rintro ws rfl
     refine VOK_fin (ok1I _) ?_)
    exact fin _ (by unfold instE; rw [if_neg (by omega), if_neg (by omega), if_neg (by omega), if_pos (by assumption)]; rfl)
   ·refine VOK_lt (run_len38 _) rfl ?_
    (refine it_c rfl rfl (fun h => ?_) (fun h => ?_) <;> simp only [Cmp, Decidable.not_not, Int.not_lt, Int.not_le] at h <;> try (exfalso; first | exact h trivial | omega))
    refine VOK_lt (r := .vptr (encX (.mk y1 y2 y3 y4 y5 y6 y7 y8 y9 y10) ++ encXs r)) rfl (by show okL _ = true; exact encL_ok.okL_join (okX _) (okXs _)) ?_
    refine VOK_lt (r := .vptr ([.int .i64 y2, .str y3, .str y4, .int .i64 y5, .int .i64 y6, .int .i64 y7, .int .i64 y8, .flt .f64 y9, encA y10] ++ encXs r)) rfl (by show okL _ = true; exact encL_ok.okL_join (by simp only [okC, okL, okA]) (okXs _)) (VOK_lt (r := .int .i64 y2) rfl rfl ?_)
    (
     refine callF' (p22 _ (ins op y2 0 0) (by omega)) rfl (okIG _ _) ⟨?_, trivial⟩
     rintro ws rfl
     refine VOK_fin (ok1I _) ?_)
    exact fin _ (by unfold instE; rw [if_neg (by omega), if_neg (by omega), if_neg (by omega), if_neg (by assumption)]; rfl)
end Go.Proofs.Ytjconanknjgpnaa.vars
