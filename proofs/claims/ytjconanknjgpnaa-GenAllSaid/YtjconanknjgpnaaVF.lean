/-
  GenAll: the program's instructions are the document's.
-/
import Derived.Test.YtjconanknjgpnaaVB
import Derived.Test.YtjconanknjgpnaaSyS
set_option maxRecDepth 100000
set_option linter.unusedVariables false
set_option linter.unusedSimpArgs false
namespace Go.Proofs.Ytjconanknjgpnaa.vars
open Go Go.Sx
def c3 : VC := ⟨⟨[], []⟩, [(6, [none]), (8, [none, none]), (9, [none, none]), (10, [none]), (11, [none]), (12, [none])], [(0, [⟨[(9, .slx 0 0 0), (3, .ptr 0 0)], [(0, [70, 71])], 1, 1, [], [], []⟩])], 0, true, [(7, ft7)]⟩
def t3 : VT :=
 (.call 6 [] 65 [none]
 (.lt (.un .not) [65] 66 none
 (.ite 66
 (.done (.bool false))
 (.lt (.len 22) [64] 67 none
 (.lt (.bin .gtr 3 false true) [67, J 200] 68 none
 (.ite 68
 (.done (.bool true))
 (.callF 7 ft7 [64] 69
 (.cons 3
 (.lt (.un .not) [72] 73 none
 (.ite 73
 (.done (.bool true))
 (.call 8 [.agg [70, 71]] 74 [none, none]
 (.call 9 [.agg [70, 71]] 76 [none, none]
 (.lt (.bin .neq 31 false false) [75, 77] 78 none
 (.ite 78
 (.done (.bool false))
 (.call 10 [74, 76] 79 [none]
 (.lt (.un .not) [79] 80 none
 (.ite 80
 (.done (.bool false))
 (.loop 81 0 [J 0]
 (.cons 1
 (.lt (.len 25) [71] 82 none
 (.lt (.bin .lss 3 false false) [81, 82] 83 none
 (.ite 83
 (.lt (.iaddr 25) [71, 81] 84 none
 (.lt (.faddr 42 0) [84] 85 none
 (.lt (.load 3) [85] 86 none
 (.lt (.bin .eql 3 false true) [86, J 1] 87 none
 (.ite 87
 (.lt (.iaddr 25) [71, 81] 88 none
 (.lt (.faddr 42 2) [88] 89 none
 (.lt (.load 40) [89] 90 (some 10)
 (.call 11 [.agg [90, 91, 92, 93, 94, 95, 96, 97, 98, 99]] 100 [none]
 (.lt (.iaddr 25) [71, 81] 101 none
 (.lt (.faddr 42 2) [101] 102 none
 (.lt (.load 40) [102] 103 (some 10)
 (.call 12 [.agg [103, 104, 105, 106, 107, 108, 109, 110, 111, 112]] 113 [none]
 (.call 10 [100, 113] 114 [none]
 (.lt (.un .not) [114] 115 none
 (.ite 115
 (.done (.bool false))
 (.lt (.bin .add 3 false true) [81, J 1] 116 none
 (.again 0 0 [116])))))))))))))
 (.lt (.bin .add 3 false true) [81, J 1] 88 none
 (.again 0 0 [88])))))))
 (.done (.bool true)))))
 .nil)))))))))))
 .nil))))))))
theorem p10 {l : List GI} (hF : ∀ i ∈ l, Flt4 i.vf) (hl : l.length ≤ 1000000) : Pure Try.prog 10 [insts l, insts l] (.bool true) := by
 refine pure_shape (sh := [none, none]) (ls := [insts l, insts l]) (c := c10) (n := 300) (t := t10) mo ov rfl (by simp only [okL, okI]) rfl (fun Y _ => known0 _) rfl (by kernel_rfl) fun Y hf hg => ?_
 unfold t10
 refine VOK_lt (run_len30 _) rfl (VOK_lt (run_len30 _) rfl ?_)
 (refine it_c rfl rfl (fun h => ?_) (fun h => ?_) <;> simp only [Cmp, Decidable.not_not, Int.not_lt, Int.not_le] at h <;> try (exfalso; first | exact h trivial | omega))
 refine VOK_loop (ι := Nat) (fun i => [.int .i64 (i : Int)]) (fun i => i ≤ l.length) (fun i => l.length - i) 0 (Nat.zero_le _) rfl (fun i _ => rfl) (fun i j _ _ h => by simp at h; omega) (fun i hi => ?_)
 refine VOK_lt (run_len30 _) rfl ?_
 (refine it_c rfl rfl (fun h => ?_) (fun h => ?_) <;> simp only [Cmp, Decidable.not_not, Int.not_lt, Int.not_le] at h <;> try (exfalso; first | exact h trivial | omega))
 ·have hi : i < l.length := by omega
  refine VOK_lt (run_ia30 l hi) (encL_ok okG _) (VOK_ltN (run_ld47 _ hi) rfl rfl (VOK_lt (run_ia30 l hi) (encL_ok okG _) (VOK_ltN (run_ld47 _ hi) rfl rfl ?_)))
  refine VOK_call (p14 (i := l[i]) rfl (hF _ (List.getElem_mem hi))) rfl rfl (VOK_lt (run_not ..) rfl (VOK_ite rfl (fun h => by cases h) (fun _ => ?_)))
  exact VOK_lt (add_c (by omega) (by omega)) rfl (VOK_again rfl ⟨i + 1, hi, rfl, by omega⟩)
 ·exact VOK_done rfl
theorem p3 {l : List UInt8} {a : AV} (hp : Pk l a) : Pure Try.prog 3 [a] (.bool true) := by
 have hA := hp.1.ok okC8
 refine pure_shape (sh := [none]) (ls := [a]) (c := c3) (n := 300) (t := t3) mo ov rfl (by simp only [okL, hA]) rfl (fun Y _ => known0 _) rfl (by kernel_rfl) fun Y hf hg => ?_
 unfold t3
 refine VOK_call k6 rfl rfl (VOK_lt rfl rfl (VOK_ite rfl (fun h => by cases h) (fun _ => ?_)))
 refine VOK_lt (len22 hp) rfl ?_
 (refine it_c rfl rfl (fun h => ?_) (fun h => ?_) <;> simp only [Cmp, Decidable.not_not, Int.not_lt, Int.not_le] at h <;> try (exfalso; first | exact h trivial | omega))
 ·exact VOK_done rfl
 refine callF' (p7 hp) rfl (by simp only [okL, hA]) ⟨?_, trivial⟩
 rintro ws ⟨v, b, e, rfl, hv, hb⟩
 refine VOK_lt (run_not ..) rfl (VOK_ite rfl (fun h => VOK_done rfl) (fun h => ?_))
 obtain ⟨rfl, hb5, hT⟩ := hb (by simpa using h)
 have hbl := genSs3 hb5 hT 0
 have hsl : SlV encS 27 b (encB b) := by rw [encB_eq]; exact SlV.of b
 refine VOK_call (p8 (v := VARS) rfl hsl hb5 hT (by omega)) rfl (by simp only [okL, okPl, okC]) ?_
 refine VOK_call (p9 (v := VARS) rfl hb5 hT (by omega)) rfl (by simp only [okL, okPl, okC]) ?_
 (refine it_c rfl rfl (fun h => ?_) (fun h => ?_) <;> simp only [Cmp, Decidable.not_not, Int.not_lt, Int.not_le] at h <;> try (exfalso; first | exact h trivial | omega))
 obtain ⟨g, hg1, hg2, hg3⟩ : ∃ g, pl b = insts g ∧ (∀ i ∈ g, Flt4 i.vf) ∧ g.length ≤ 400 := by
  unfold pl
  split
  ·exact ⟨_, rfl, fun i hi => (genP_gok hT i hi).1, by assumption⟩
  ·exact ⟨[], rfl, fun _ hi => (List.not_mem_nil hi).elim, Nat.zero_le _⟩
 rw [hg1]
 refine VOK_call (p10 hg2 (by omega)) rfl rfl (VOK_lt (run_not ..) rfl (VOK_ite rfl (fun h => by cases h) (fun _ => ?_)))
 refine VOK_loop (ι := Nat) (fun i => [.int .i64 (i : Int)]) (fun i => i ≤ b.length) (fun i => b.length - i) 0 (Nat.zero_le _) rfl (fun i _ => rfl) (fun i j _ _ h => by simp at h; omega) (fun i hi => ?_)
 refine VOK_lt (run_len25 b) rfl ?_
 (refine it_c rfl rfl (fun h => ?_) (fun h => ?_) <;> simp only [Cmp, Decidable.not_not, Int.not_lt, Int.not_le] at h <;> try (exfalso; first | exact h trivial | omega))
 ·have hi : i < b.length := by omega
  have hia := run_ia25 b hi
  have hs := hT _ (List.getElem_mem hi)
  have hd : encL encS (b.drop i) = encS b[i] ++ encL encS (b.drop (i + 1)) := by rw [List.drop_eq_getElem_cons hi]; rfl
  rw [hd] at hia
  obtain ⟨rest, hr⟩ : ∃ rest, rest = encL encS (b.drop (i + 1)) := ⟨_, rfl⟩
  have hrest : okL rest = true := by rw [hr]; exact encL_ok okS _
  rw [← hr] at hia
  rcases hzz : b[i] with ⟨z1, ⟨a1, a2, a3, a4, a5, a6, a7, a8, a9, a10⟩, ⟨b1, b2, b3, b4, b5, b6, b7, b8, b9, b10⟩, z4, z5, z6, z7, z8, z9⟩
  rw [hzz] at hia hs
  have hok := okS (.mk z1 (.mk a1 a2 a3 a4 a5 a6 a7 a8 a9 a10) (.mk b1 b2 b3 b4 b5 b6 b7 b8 b9 b10) z4 z5 z6 z7 z8 z9)
  have hok1 := encL_ok.okL_join hok hrest
  have hok2 : okL (encX (.mk b1 b2 b3 b4 b5 b6 b7 b8 b9 b10) ++ ([encB z4, encB z5, .str z6, .int .i64 z7, .int .i64 z8, encA z9] ++ rest)) = true := encL_ok.okL_join (okX _) (encL_ok.okL_join (by simp only [okL, okC, okA, okB]) hrest)
  refine VOK_lt hia hok1 (VOK_lt (r := .vptr (encS (.mk z1 (.mk a1 a2 a3 a4 a5 a6 a7 a8 a9 a10) (.mk b1 b2 b3 b4 b5 b6 b7 b8 b9 b10) z4 z5 z6 z7 z8 z9) ++ rest)) rfl hok1 (VOK_lt (r := .int .i64 z1) rfl rfl ?_))
  (refine it_c rfl rfl (fun h => ?_) (fun h => ?_) <;> simp only [Cmp, Decidable.not_not, Int.not_lt, Int.not_le] at h <;> try (exfalso; first | exact h trivial | omega))
  ·have he : TX 5 (.mk b1 b2 b3 b4 b5 b6 b7 b8 b9 b10) := by
     rcases hs with ⟨_, _, _, h3, _⟩ | ⟨ho, _⟩ | ⟨ho, _⟩
     ·exact h3
     ·omega
     ·omega
   refine VOK_lt hia hok1 (VOK_lt (r := .vptr (encX (.mk b1 b2 b3 b4 b5 b6 b7 b8 b9 b10) ++ ([encB z4, encB z5, .str z6, .int .i64 z7, .int .i64 z8, encA z9] ++ rest))) rfl hok2 (VOK_ltN (cs := encX (.mk b1 b2 b3 b4 b5 b6 b7 b8 b9 b10)) rfl rfl (okX _) ?_))
   have h31 := genE5 he
   refine VOK_call (p11 he (by omega)) rfl (by simp only [okL, okI]) ?_
   refine VOK_lt hia hok1 (VOK_lt (r := .vptr (encX (.mk b1 b2 b3 b4 b5 b6 b7 b8 b9 b10) ++ ([encB z4, encB z5, .str z6, .int .i64 z7, .int .i64 z8, encA z9] ++ rest))) rfl hok2 (VOK_ltN (cs := encX (.mk b1 b2 b3 b4 b5 b6 b7 b8 b9 b10)) rfl rfl (okX _) ?_))
   refine VOK_call (e12 he) rfl (by simp only [okL, okI]) ?_
   refine VOK_call (p10 (genE_ok 5 _ he) (by omega)) rfl rfl (VOK_lt (run_not ..) rfl (VOK_ite rfl (fun h => by cases h) (fun _ => ?_)))
   exact VOK_lt (add_c (by omega) (by omega)) rfl (VOK_again rfl ⟨i + 1, hi, rfl, by omega⟩)
  ·exact VOK_lt (add_c (by omega) (by omega)) rfl (VOK_again rfl ⟨i + 1, hi, rfl, by omega⟩)
 ·exact VOK_done rfl
end Go.Proofs.Ytjconanknjgpnaa.vars
set_option maxRecDepth 100000
set_option linter.unusedVariables false
set_option linter.unusedSimpArgs false
namespace Go.Proofs.Ytjconanknjgpnaa.vars
open Go Go.Sx
theorem rows_of {α : Type} {enc : α → List AV} {p : List AV → Prop} {q : α → Prop} (h : ∀ r, p r → ∃ a, r = enc a ∧ q a) : ∀ rows : List (List AV), (∀ r, r ∈ rows → p r) → ∃ l : List α, rows.flatten = encL enc l ∧ l.length = rows.length ∧ ∀ a, a ∈ l → q a
 | [], _ => ⟨[], rfl, rfl, fun a h => by cases h⟩
 | r :: rows, hr => by
   obtain ⟨a, rfl, ha⟩ := h r (hr r (List.mem_cons_self ..))
   obtain ⟨l, h1, h2, h3⟩ := rows_of h rows fun r h => hr r (List.mem_cons_of_mem _ h)
   refine ⟨a :: l, by rw [List.flatten_cons, h1]; rfl, by simp [h2], fun b hb => ?_⟩
   rcases List.mem_cons.1 hb with rfl | hb
   ·exact ha
   ·exact h3 b hb
theorem fit_u8 {r : List AV} (h : Sx.Fit Try.prog 5 r) : ∃ c : UInt8, r = encC c ∧ True := by
 obtain ⟨n, rfl, hn⟩ := fit_int_inv Try.underlying5 h
 have hn : 0 ≤ n ∧ n ≤ 255 := by simpa [Lit.wf, IntKind.min, IntKind.max, IntKind.bits, IntKind.signed] using hn
 refine ⟨n.toNat.toUInt8, ?_, trivial⟩
 have : ((n.toNat.toUInt8).toNat : Int) = n := by
  have h1 : n.toNat.toUInt8.toNat = n.toNat := by
   simp only [Nat.toUInt8, UInt8.toNat_ofNat']; omega
  rw [h1]; omega
 unfold encC
 rw [this]
theorem arg_u8s {H : Type} {enc : TypeId × Value → H} {W : World} {base : Nat} {v : Value} {dd : DataW H} {p ps : List MemPlace} (hok : Value.okWide Try.prog W .any base 22 v)
  (h : DataW.Trod enc Try.prog W 0 (fun _ => true) true 22 v dd p) (hps : ∀ q, q ∈ p → q ∈ ps) : ∃ (l : List UInt8) (a : AV), SlV encC 1 l a ∧ True ∧ l.length ≤ maxLen ∧ Con (envOf (imOf W ps)) a v := by
 rcases arg_slice (d := 5) Try.underlying22 (by kernel_rfl) hok h hps with rfl | ⟨rows, h1, h2, h3, h4⟩
 ·exact ⟨[], .nsl, .inr ⟨rfl, rfl⟩, trivial, Nat.zero_le _, by simp only [Con]⟩
 ·obtain ⟨l, k1, k2, k3⟩ := rows_of (enc := encC) (q := fun _ => True) (fun r hr => fit_u8 hr) rows h1
  have hc : Try.prog.cellsOf 5 = 1 := by kernel_rfl
  refine ⟨l, vslOf encC 1 l, .inl rfl, trivial, by omega, ?_⟩
  have h4' := h4
  rw [k1, hc, ← k2] at h4'
  exact h4'
theorem q5 {l : List UInt8} {x : AV} (sl : SlV encC 1 l x) (m : l.length ≤ maxLen) {c : Int} (w : (Lit.int .u8 c).wf = true) : Pure Try.prog 5 [x, .int .u8 c] (.bool true) := by
 have hn : 0 ≤ c ∧ c ≤ 255 := by simpa [Lit.wf, IntKind.min, IntKind.max, IntKind.bits, IntKind.signed] using w
 obtain ⟨n, rfl⟩ : ∃ n : Nat, c = (n : Int) := ⟨c.toNat, by omega⟩
 exact p5 ⟨sl, by simp only [maxLen] at m; omega⟩ n (by omega)
end Go.Proofs.Ytjconanknjgpnaa.vars
set_option maxRecDepth 100000
set_option linter.unusedVariables false
set_option linter.unusedSimpArgs false
namespace Go.Proofs.Ytjconanknjgpnaa.vars
open Go Go.Sx
theorem q3 {l : List UInt8} {x : AV} (sl : SlV encC 1 l x) (m : l.length ≤ maxLen) : Pure Try.prog 3 [x] (.bool true) :=
 p3 ⟨sl, by simp only [maxLen] at m; omega⟩
end Go.Proofs.Ytjconanknjgpnaa.vars
