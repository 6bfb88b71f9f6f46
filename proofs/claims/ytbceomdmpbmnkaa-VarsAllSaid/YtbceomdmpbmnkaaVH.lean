/-
  VarsAll: the program's answers and the document's are the same.
-/
import Derived.Test.YtbceomdmpbmnkaaF0
import Derived.Test.YtbceomdmpbmnkaaFA
import Derived.KernelRfl
set_option maxRecDepth 100000
set_option linter.unusedVariables false
set_option linter.unusedSimpArgs false
namespace Go.Proofs.Ytbceomdmpbmnkaa.vars
open Go Go.Sx
structure W (a : AV) : Prop where
 ok : okC a = true
 has : ∃ (A : List Int) (n e : Int) (fl : List GVal), A.length ≤ 100 ∧ fl.length ≤ 100 ∧
  Pure Try.prog 9 [a] (.tup [ints A, .int .i64 n]) ∧ Pure Try.prog 10 [a] (.tup [ints A, .int .i64 n]) ∧ Pure Try.prog 11 [a] (vals fl) ∧ Pure Try.prog 12 [a] (.int .i64 e) ∧ Pure Try.prog 13 [a] (.int .i64 e) ∧ Pure Try.prog 15 [a] (vals fl) ∧
  (∃ s1 s2, okC s1 = true ∧ okC s2 = true ∧ Pure Try.prog 16 [a, vals fl] s1 ∧ Pure Try.prog 17 [a, vals fl] s2 ∧ Pure Try.prog 14 [s1, s2] (.bool true)) ∧ ∀ v, Pure Try.prog 16 [a, vals (fl ++ [v])] .nsl
theorem W_of (l : List GVar) (hl : l.length ≤ 1000) (hz : ∀ v ∈ l, Plain v) : W (vrs l) := by
 refine ⟨okVrs l, ?_⟩
 by_cases hm : mayE l = 0
 ·have h := own_of hm hz
  have h12 := h.le
  have hf := firstF_le l h.all
  have h9 := p9 l hl hz
  have hp12 := p12 l hl hz
  have hp13 := p13 l hl hz
  have h15 := p15 l hl hz
  rw [if_pos hm] at h9 h15
  rw [hm] at hp12 hp13
  have h16 := p16 l h (firstF l) (by omega)
  rw [if_pos rfl] at h16
  have hsl := safeF_len l 0 (firstF l)
  refine ⟨addrsF l 0, sumW l 0, 0, firstF l, by rw [addrsF_len]; omega, by omega, h9, p10 l h, p11 l h, hp12, hp13, h15, ⟨_, _, okVals _, okVsl _, h16, p17 l h (firstF l) rfl (by omega), ?_⟩, fun v => ?_⟩
  ·by_cases he : safeF l 0 (firstF l) = []
   ·rw [he]; exact p14e1
   ·rw [vsl_ne he]
    exact p14 _ (by omega)
  ·have h16 := p16 l h (firstF l ++ [v]) (by rw [List.length_append]; simp only [List.length_cons, List.length_nil]; omega)
   rw [if_neg (by rw [List.length_append]; simp only [List.length_cons, List.length_nil]; omega)] at h16
   exact h16
 ·have h9 := p9 l hl hz
  have h15 := p15 l hl hz
  rw [if_neg hm] at h9 h15
  exact ⟨[], 0, mayE l, [], Nat.zero_le _, Nat.zero_le _, h9, p10n l hl hz hm, p11n l hl hz hm, p12 l hl hz, p13 l hl hz, h15, ⟨.nsl, .vsl 0 3 [], rfl, rfl, p16n l hl hz hm [], p17n l hl hz hm, p14e1⟩, fun v => p16n l hl hz hm _⟩
theorem W_e : W (.vsl 0 10 []) := by
 refine ⟨rfl, [], 0, 0, [], Nat.zero_le _, Nat.zero_le _, memo_ok (n := 300) mo ov (by kernel_rfl), memo_ok (n := 300) mo ov (by kernel_rfl), memo_ok (n := 300) mo ov (by kernel_rfl), memo_ok (n := 300) mo ov (by kernel_rfl), memo_ok (n := 300) mo ov (by kernel_rfl), memo_ok (n := 300) mo ov (by kernel_rfl), ⟨.nsl, .vsl 0 3 [], rfl, rfl, memo_ok (n := 300) mo ov (by kernel_rfl), memo_ok (n := 300) mo ov (by kernel_rfl), p14e1⟩, fun v => ?_⟩
 have h9 : Pure Try.prog 9 [.vsl 0 10 []] (.tup [.nsl, .int .i64 0]) := memo_ok (n := 300) mo ov (by kernel_rfl)
 have h12 : Pure Try.prog 12 [.vsl 0 10 []] (.int .i64 0) := memo_ok (n := 300) mo ov (by kernel_rfl)
 refine pure_shape (sh := [none, none]) (ls := [.vsl 0 10 [], vals [v]]) (c := c16) (n := 300) (t := t16) mo ov rfl rfl rfl (fun Y _ => known0 _) rfl (by kernel_rfl) fun Y hf hg => ?_
 unfold t16
 refine VOK_call h9 rfl rfl (VOK_call h12 rfl rfl (VOK_lt (r := .bool false) (by kernel_rfl) rfl (VOK_iteF rfl ?_)))
 exact VOK_lt (len33 [v]) rfl (VOK_lt (run_neq ..) rfl (VOK_iteT rfl (VOK_done rfl)))
theorem W_sl {l : List GVar} {a : AV} (h : SlV encVar 10 l a) (hl : l.length ≤ 1000) (hz : ∀ v ∈ l, Plain v) : W a := by
 rcases h with rfl | ⟨rfl, rfl⟩
 ·by_cases hn : l = []
  ·subst hn; exact W_e
  ·rw [vsl_ne hn]; exact W_of l hl hz
 ·exact W_of [] (Nat.zero_le _) (fun v h => by cases h)
theorem slv_len {l : List GVar} {a : AV} (h : SlV encVar 10 l a) : (XOp.len 22).run Try.prog [a] = some (.int .i64 (l.length : Int)) := by
 rcases h with rfl | ⟨rfl, rfl⟩
 ·by_cases hn : l = []
  ·subst hn; kernel_rfl
  ·rw [vsl_ne hn]; exact len22 l
 ·exact len22 []
def e1 (a : AV) : List AV := [a]
theorem okE : ∀ l : List AV, (∀ a ∈ l, okC a = true) → okL (encL e1 l) = true
 | [], _ => rfl
 | a :: r, h => by
   show okL (a :: encL e1 r) = true
   rw [okL_cons, h a (List.mem_cons_self ..), okE r fun b hb => h b (List.mem_cons_of_mem _ hb)]; rfl
theorem ia29 {l : List AV} {i : Nat} (h : i < l.length) : (XOp.iaddr 29).run Try.prog [sliceOf e1 1 l, .int .i64 (i : Int)] = some (.vptr (encL e1 (l.drop i))) :=
 run_iaddr_sl (enc := e1) (w := 1) (ti := (Try.prog.info? 22).get!) Try.underlying29 (by kernel_rfl) (by kernel_rfl) (fun _ => rfl) h .i64
theorem ld22 {l : List AV} {i : Nat} (h : i < l.length) : (XOp.load 22).run Try.prog [.vptr (encL e1 (l.drop i))] = some l[i] := by
 rw [List.drop_eq_getElem_cons h]
 exact run_load_one Try.underlying22 rfl _ _
theorem neq_same (x : Int) (t : TypeId) (cx cy : Bool) : (XOp.bin .neq t cx cy).run Try.prog [.int .i64 x, .int .i64 x] = some (.bool false) := by rw [run_neq]; simp
theorem eql_same (x : Int) (t : TypeId) (cx cy : Bool) : (XOp.bin .eql t cx cy).run Try.prog [.int .i64 x, .int .i64 x] = some (.bool true) := by rw [run_eql]; simp
theorem eq_bb (b : Bool) : (XOp.bin .eql 4 false false).run Try.prog [.bool b, .bool b] = some (.bool true) := by cases b <;> kernel_rfl
theorem p6 : Pure Try.prog 6 [] (.bool true) := memo_ok (n := 300) mo ov (by kernel_rfl)
theorem play_plain : (∀ v ∈ playV, Plain v) := (play_may (List.Sublist.refl playV)).2.2
def c3 : VC := ⟨⟨[], []⟩, [(6, [none]), (9, [none, none]), (10, [none, none]), (11, [none]), (12, [none]), (13, [none]), (14, [none]), (15, [none]), (16, [none]), (17, [none]), (18, [none]), (19, [none]), (20, [none]), (21, [(some 3)]), (22, [(some 3)]), (23, [none]), (24, [none])], [(0, [⟨[(16, .slx 0 0 0), (12, .ptr 0 0), (15, .slx 1 0 0), (6, 72)], [(0, [69, 70, 71])], 1, 2, [], [], []⟩]), (2, [⟨[(22, .slx 0 0 0), (19, 94), (17, 90), (16, 85), (12, .ptr 0 0), (15, 86), (6, 72)], [(0, [69, 70, 71])], 1, 1, [], [], []⟩])], 0, true, [(8, ft8)]⟩
def t3 : VT :=
 (.call 6 [] 73 [none]
 (.lt (.un .not) [73] 74 none
 (.ite 74
 (.done (.bool false))
 (.lt (.len 9) [67] 75 none
 (.lt (.bin .gtr 3 false true) [75, J 20] 76 none
 (.ite 76
 (.done (.bool true))
 (.lt (.len 22) [68] 77 none
 (.lt (.bin .gtr 3 false true) [77, J 20] 78 none
 (.ite 78
 (.done (.bool true))
 (.callF 8 ft8 [.vsl 12 10 [.str [97], J 1, J 2, J 0, J 2, J 0, .flt .f64 0, J 0, J 0, .flt .f64 0, .str [98], J 1, J 1, J 0, J 1, J 0, .flt .f64 0, J 0, J 0, .flt .f64 0, .str [111], J 2, J 2, J 0, J 2, J 0, .flt .f64 0, J 2, J 7, .flt .f64 0, .str [113], J 2, J 1, J 0, J 1, J 0, .flt .f64 0, J 1, J 1, .flt .f64 0, .str [120], J 3, J 2, J 0, J 2, J 5, .flt .f64 0, J 0, J 0, .flt .f64 0, .str [121], J 3, J 3, J 0, J 3, J 0, .flt .f64 0, J 0, J 0, .flt .f64 0, .str [122], J 3, J 5, J 0, J 5, J 0, .flt .f64 0, J 0, J 0, .flt .f64 0, .str [119], J 3, J 4, J 0, J 4, J 0, .flt .f64 0, J 0, J 0, .flt .f64 0, .str [107], J 3, J 2, J 4, J 2, J 0, .flt .f64 0, J 0, J 0, .flt .f64 0, .str [116, 109], J 3, J 6, J 0, J 0, J 0, .flt .f64 0, J 0, J 0, .flt .f64 0, .str [99], J 3, J 9, J 0, J 0, J 0, .flt .f64 0, J 0, J 0, .flt .f64 0, .str [101], J 3, J 11, J 0, J 0, J 0, .flt .f64 0, J 0, J 0, .flt .f64 0], 64, 65, 66, 67] 79
 (.cons 1
 (.loop 85 0 [J 0, .vsl 3 1 [.vsl 12 10 [.str [97], J 1, J 2, J 0, J 2, J 0, .flt .f64 0, J 0, J 0, .flt .f64 0, .str [98], J 1, J 1, J 0, J 1, J 0, .flt .f64 0, J 0, J 0, .flt .f64 0, .str [111], J 2, J 2, J 0, J 2, J 0, .flt .f64 0, J 2, J 7, .flt .f64 0, .str [113], J 2, J 1, J 0, J 1, J 0, .flt .f64 0, J 1, J 1, .flt .f64 0, .str [120], J 3, J 2, J 0, J 2, J 5, .flt .f64 0, J 0, J 0, .flt .f64 0, .str [121], J 3, J 3, J 0, J 3, J 0, .flt .f64 0, J 0, J 0, .flt .f64 0, .str [122], J 3, J 5, J 0, J 5, J 0, .flt .f64 0, J 0, J 0, .flt .f64 0, .str [119], J 3, J 4, J 0, J 4, J 0, .flt .f64 0, J 0, J 0, .flt .f64 0, .str [107], J 3, J 2, J 4, J 2, J 0, .flt .f64 0, J 0, J 0, .flt .f64 0, .str [116, 109], J 3, J 6, J 0, J 0, J 0, .flt .f64 0, J 0, J 0, .flt .f64 0, .str [99], J 3, J 9, J 0, J 0, J 0, .flt .f64 0, J 0, J 0, .flt .f64 0, .str [101], J 3, J 11, J 0, J 0, J 0, .flt .f64 0, J 0, J 0, .flt .f64 0], 84, 68]]
 (.cons 2
 (.lt (.bin .lss 3 false true) [85, J 3] 87 none
 (.ite 87
 (.lt (.iaddr 29) [86, 85] 88 none
 (.lt (.load 22) [88] 89 none
 (.call 9 [89] 90 [none, none]
 (.lt (.iaddr 29) [86, 85] 92 none
 (.lt (.load 22) [92] 93 none
 (.call 10 [93] 94 [none, none]
 (.lt (.iaddr 29) [86, 85] 96 none
 (.lt (.load 22) [96] 97 none
 (.call 11 [97] 98 [none]
 (.lt (.iaddr 29) [86, 85] 99 none
 (.lt (.load 22) [99] 100 none
 (.call 12 [100] 101 [none]
 (.lt (.iaddr 29) [86, 85] 102 none
 (.lt (.load 22) [102] 103 none
 (.call 13 [103] 104 [none]
 (.lt (.bin .neq 35 false false) [101, 104] 105 none
 (.ite 105
 (.done (.bool false))
 (.lt (.bin .neq 3 false false) [91, 95] 106 none
 (.ite 106
 (.done (.bool false))
 (.lt (.len 30) [90] 107 none
 (.lt (.len 30) [94] 108 none
 (.lt (.bin .neq 3 false false) [107, 108] 109 none
 (.ite 109
 (.done (.bool false))
 (.lt (.iaddr 29) [86, 85] 110 none
 (.lt (.load 22) [110] 111 none
 (.call 15 [111] 112 [none]
 (.call 14 [112, 98] 113 [none]
 (.lt (.un .not) [113] 114 none
 (.ite 114
 (.done (.bool false))
 (.lt (.iaddr 29) [86, 85] 115 none
 (.lt (.load 22) [115] 116 none
 (.call 16 [116, 98] 117 [none]
 (.lt (.iaddr 29) [86, 85] 118 none
 (.lt (.load 22) [118] 119 none
 (.call 17 [119, 98] 120 [none]
 (.call 14 [117, 120] 121 [none]
 (.lt (.un .not) [121] 122 none
 (.ite 122
 (.done (.bool false))
 (.lt (.iaddr 29) [86, 85] 123 none
 (.lt (.load 22) [123] 124 none
 (.lt .emp [98] 125 none
 (.ite 125
 (.lt (.app 3 24) [.vsl 0 3 [], .vsl 1 3 [69, 70, 71]] 126 none
 (.call 16 [124, 126] 127 [none]
 (.lt (.len 33) [127] 128 none
 (.lt (.bin .neq 3 false true) [128, J 0] 129 none
 (.ite 129
 (.done (.bool false))
 (.loop 130 0 [J 0]
 (.cons 1
 (.lt (.len 30) [94] 131 none
 (.lt (.bin .lss 3 false false) [130, 131] 132 none
 (.ite 132
 (.lt (.iaddr 30) [90, 130] 133 none
 (.lt (.load 3) [133] 134 none
 (.lt (.iaddr 30) [94, 130] 135 none
 (.lt (.load 3) [135] 136 none
 (.lt (.bin .neq 3 false false) [134, 136] 137 none
 (.ite 137
 (.done (.bool false))
 (.lt (.bin .add 3 false true) [130, J 1] 138 none
 (.again 1 0 [138]))))))))
 (.lt (.bin .add 3 false true) [85, J 1] 133 none
 (.again 0 0 [133, 86])))))
 .nil)))))))
 (.lt (.app 3 24) [.vsl 0 3 [], 98] 126 none
 (.lt (.app 3 24) [126, .vsl 1 3 [69, 70, 71]] 127 none
 (.call 16 [124, 127] 128 [none]
 (.lt (.len 33) [128] 129 none
 (.lt (.bin .neq 3 false true) [129, J 0] 130 none
 (.ite 130
 (.done (.bool false))
 (.loop 131 0 [J 0]
 (.cons 1
 (.lt (.len 30) [94] 132 none
 (.lt (.bin .lss 3 false false) [131, 132] 133 none
 (.ite 133
 (.lt (.iaddr 30) [90, 131] 134 none
 (.lt (.load 3) [134] 135 none
 (.lt (.iaddr 30) [94, 131] 136 none
 (.lt (.load 3) [136] 137 none
 (.lt (.bin .neq 3 false false) [135, 137] 138 none
 (.ite 138
 (.done (.bool false))
 (.lt (.bin .add 3 false true) [131, J 1] 139 none
 (.again 1 0 [139]))))))))
 (.lt (.bin .add 3 false true) [85, J 1] 134 none
 (.again 0 0 [134, 86])))))
 .nil))))))))))))))))))))))))))))))))))))))))))))))))))
 (.call 18 [72] 88 [none]
 (.call 19 [72] 89 [none]
 (.lt (.bin .eql 3 false false) [88, 89] 90 none
 (.ite 90
 (.call 21 [72] 91 [(some 3)]
 (.call 22 [72] 94 [(some 3)]
 (.call 20 [.agg [91, 92, 93], .agg [94, 95, 96]] 97 [none]
 (.ite 97
 (.call 23 [.agg [69, 70, 71]] 98 [none]
 (.call 24 [.agg [69, 70, 71]] 99 [none]
 (.lt (.bin .eql 4 false false) [98, 99] 100 none
 (.done (100)))))
 (.done (.bool false))))))
 (.done (.bool false))))))))
 .nil))
 .nil)))))))))))
theorem p3 (which : Int) (at' : Nat) (ha : at' < 256) (to : Int) (s : List UInt8) (hs : s.length < 9223372036854775808) (l : List GVar) (a : AV) (hsl : SlV encVar 10 l a) (hz : ∀ v ∈ l, Plain v) (v : GVal) (hv : v.f < 18446744073709551616) (kind : Int) (hoa : okC a = true) :
  Pure Try.prog 3 [.int .u8 which, .int .u8 (at' : Int), .int .i64 to, .str s, a, .agg (encVal v), .int .i64 kind] (.bool true) := by
 refine pure_shape (sh := [none, none, none, none, none, some 3, none]) (ls := [.int .u8 which, .int .u8 (at' : Int), .int .i64 to, .str s, a] ++ encVal v ++ [.int .i64 kind]) (c := c3) (n := 300) (t := t3) mo ov rfl (by simp only [List.cons_append, List.nil_append, encVal, okL, okC, hoa]) rfl (fun Y _ => known0 _) rfl (by kernel_rfl) fun Y hf hg => ?_
 unfold t3
 refine VOK_call p6 rfl rfl (VOK_lt (run_not ..) rfl (VOK_iteF rfl ?_))
 refine VOK_lt (run_len_str Try.underlying9 s) rfl (VOK_lt (run_gtr ..) rfl (VOK_ite rfl (fun _ => VOK_done rfl) (fun _ => ?_)))
 refine VOK_lt (slv_len hsl) rfl (VOK_lt (run_gtr ..) rfl (VOK_ite rfl (fun _ => VOK_done rfl) (fun hle => ?_)))
 have hle : l.length ≤ 20 := by simp only [decide_eq_false_iff_not] at hle; omega
 refine callF' (p8 playV play_plain (by decide) (by decide) which at' ha to s hs) rfl (by rfl) ⟨?_, trivial⟩
 rintro ws ⟨l8, a8, rfl, hsl8, hz8, hl8⟩
 have hWa := W_sl hsl (by omega) hz
 have hW8 := W_sl hsl8 hl8 hz8
 have hW0 := W_of playV (by decide) play_plain
 have hW : ∀ x ∈ [vrs playV, a8, a], W x := by
  intro x hx
  simp only [List.mem_cons, List.not_mem_nil, or_false] at hx
  rcases hx with rfl | rfl | rfl
  ·exact hW0
  ·exact hW8
  ·exact hWa
 obtain ⟨xs, hxs⟩ : ∃ xs, xs = [vrs playV, a8, a] := ⟨_, rfl⟩
 rw [← hxs] at hW
 have hl3 : xs.length = 3 := by rw [hxs]; rfl
 have hoX : okL (encL e1 xs) = true := okE xs fun x hx => (hW x hx).ok
 have hoXs : okC (sliceOf e1 1 xs) = true := by
  rw [hxs] at hoX ⊢
  exact hoX
 refine VOK_loop (ι := Nat) (fun i => [.int .i64 (i : Int), sliceOf e1 1 xs]) (fun i => i ≤ 3) (fun i => 3 - i) 0 (Nat.zero_le _) (by rw [hxs]; rfl)
  (fun i _ => by simp only [okL, okC, hoXs]) (fun i j _ _ h => ?_) (fun i hi => ?_)
 ·have h := (AV.int.inj (List.cons.inj h).1).2; omega
 refine VOK_lt (run_lss ..) rfl (VOK_ite rfl (fun hlt => ?_) (fun hlt => ?_))
 ·have hlt : i < xs.length := by simp only [decide_eq_true_eq] at hlt; omega
  have hia := ia29 hlt
  have hld := ld22 hlt
  have hoR : okL (encL e1 (xs.drop i)) = true := okE _ fun x hx => (hW x (List.mem_of_mem_drop hx)).ok
  obtain ⟨hox, A, n, e, fl, hA, hfl, h9, h10, h11, h12, h13, h15, ⟨s1, s2, ho1, ho2, h16, h17, h14⟩, h16v⟩ := hW xs[i] (List.getElem_mem hlt)
  refine VOK_lt hia hoR (VOK_lt hld hox (VOK_call h9 rfl (by simp only [okL, okC, okInts]) ?_))
  refine VOK_lt hia hoR (VOK_lt hld hox (VOK_call h10 rfl (by simp only [okL, okC, okInts]) ?_))
  refine VOK_lt hia hoR (VOK_lt hld hox (VOK_call h11 rfl (okC1 (okVals _)) ?_))
  refine VOK_lt hia hoR (VOK_lt hld hox (VOK_call h12 rfl rfl ?_))
  refine VOK_lt hia hoR (VOK_lt hld hox (VOK_call h13 rfl rfl ?_))
  refine VOK_lt (neq_same ..) rfl (VOK_iteF rfl ?_)
  refine VOK_lt (neq_same ..) rfl (VOK_iteF rfl ?_)
  refine VOK_lt (len30 A) rfl (VOK_lt (len30 A) rfl (VOK_lt (neq_same ..) rfl (VOK_iteF rfl ?_)))
  refine VOK_lt hia hoR (VOK_lt hld hox (VOK_call h15 rfl (okC1 (okVals _)) ?_))
  refine VOK_call (p14 fl (by omega)) rfl rfl (VOK_lt (run_not ..) rfl (VOK_iteF rfl ?_))
  refine VOK_lt hia hoR (VOK_lt hld hox (VOK_call h16 rfl (okC1 ho1) ?_))
  refine VOK_lt hia hoR (VOK_lt hld hox (VOK_call h17 rfl (okC1 ho2) ?_))
  refine VOK_call h14 rfl rfl (VOK_lt (run_not ..) rfl (VOK_iteF rfl ?_))
  refine VOK_lt hia hoR (VOK_lt hld hox ?_)
  by_cases hfe : fl = []
  ·subst hfe
   refine VOK_lt (r := .bool true) (by rfl) rfl (VOK_iteT rfl ?_)
   refine VOK_lt (run_app_v (enc := encVal) (bytes := 24) lenVal (by decide) [] [v] (by simp only [List.length_cons, List.length_nil]; omega)) (okVsl _) (VOK_call (h16v v) rfl rfl (VOK_lt (len33 []) rfl (VOK_lt (run_neq ..) rfl (VOK_iteF rfl ?_))))
   refine VOK_loop (ι := Nat) (fun k => [.int .i64 (k : Int)]) (fun k => k ≤ A.length) (fun k => A.length - k) 0 (Nat.zero_le _) rfl (fun k _ => rfl) (fun i j _ _ h => by have h := (AV.int.inj (List.cons.inj h).1).2; omega) (fun k hk => ?_)
   refine VOK_lt (len30 A) rfl (VOK_lt (run_lss ..) rfl (VOK_ite rfl (fun hkl => ?_) (fun hkl => ?_)))
   ·have hkl : k < A.length := by simp only [decide_eq_true_eq] at hkl; omega
    refine VOK_lt (ia30 hkl) (encL_ok okI1 _) (VOK_lt (ld3i hkl) rfl (VOK_lt (ia30 hkl) (encL_ok okI1 _) (VOK_lt (ld3i hkl) rfl (VOK_lt (neq_same ..) rfl (VOK_iteF rfl (VOK_lt (add_c (by omega) (by omega)) rfl (VOK_again rfl ⟨k + 1, hkl, rfl, by omega⟩)))))))
   ·exact VOK_lt (add_c (by omega) (by omega)) rfl (VOK_again rfl ⟨i + 1, by omega, rfl, by omega⟩)
  ·have hemp : XOp.emp.run Try.prog [vals fl] = some (.bool false) := by
     cases fl with
     | nil => exact absurd rfl hfe
     | cons x r => rfl
   have happ := run_app_v (enc := encVal) (bytes := 24) lenVal (by decide) [] fl (by simp only [List.length_nil]; omega)
   rw [List.nil_append, vsl_ne hfe] at happ
   refine VOK_lt hemp rfl (VOK_iteF rfl ?_)
   refine VOK_lt happ (okVals _) (VOK_lt (apps3_24 fl [v] (by simp only [List.length_cons, List.length_nil]; omega)) (okVals _) (VOK_call (h16v v) rfl rfl (VOK_lt (len33 []) rfl (VOK_lt (run_neq ..) rfl (VOK_iteF rfl ?_)))))
   refine VOK_loop (ι := Nat) (fun k => [.int .i64 (k : Int)]) (fun k => k ≤ A.length) (fun k => A.length - k) 0 (Nat.zero_le _) rfl (fun k _ => rfl) (fun i j _ _ h => by have h := (AV.int.inj (List.cons.inj h).1).2; omega) (fun k hk => ?_)
   refine VOK_lt (len30 A) rfl (VOK_lt (run_lss ..) rfl (VOK_ite rfl (fun hkl => ?_) (fun hkl => ?_)))
   ·have hkl : k < A.length := by simp only [decide_eq_true_eq] at hkl; omega
    refine VOK_lt (ia30 hkl) (encL_ok okI1 _) (VOK_lt (ld3i hkl) rfl (VOK_lt (ia30 hkl) (encL_ok okI1 _) (VOK_lt (ld3i hkl) rfl (VOK_lt (neq_same ..) rfl (VOK_iteF rfl (VOK_lt (add_c (by omega) (by omega)) rfl (VOK_again rfl ⟨k + 1, hkl, rfl, by omega⟩)))))))
   ·exact VOK_lt (add_c (by omega) (by omega)) rfl (VOK_again rfl ⟨i + 1, by omega, rfl, by omega⟩)
 ·refine VOK_call (p18 kind) rfl rfl (VOK_call (p19 kind) rfl rfl (VOK_lt (eql_same ..) rfl (VOK_iteT rfl ?_)))
  refine VOK_call (p21 kind) rfl rfl (VOK_call (p22 kind) rfl rfl (VOK_call (p20 (zeroOf kind)) rfl rfl (VOK_iteT rfl ?_)))
  refine VOK_call (p23 v hv) rfl rfl (VOK_call (p24 v) rfl rfl (VOK_lt (eq_bb _) rfl (VOK_done rfl)))
theorem slv_ok {l : List GVar} {a : AV} (h : SlV encVar 10 l a) : okC a = true := by
 rcases h with rfl | ⟨rfl, rfl⟩
 ·exact encL_ok okVar l
 ·rfl
theorem q3 {a0 a1 a2 a6 : Int} (w1 : (Lit.int .u8 a1).wf = true) {s : List UInt8} (m : s.length ≤ maxLen) {l : List GVar} {a : AV} (hsl : SlV encVar 10 l a) (hz : ∀ v ∈ l, Plain v) (x : GVal) (hx : x.f < 18446744073709551616) :
  Pure Try.prog 3 [.int .u8 a0, .int .u8 a1, .int .i64 a2, .str s, a, .agg (encVal x), .int .i64 a6] (.bool true) := by
 have hw : 0 ≤ a1 ∧ a1 ≤ 255 := by simpa [Lit.wf, IntKind.min, IntKind.max, IntKind.bits, IntKind.signed] using w1
 obtain ⟨n, rfl⟩ := Int.eq_ofNat_of_zero_le hw.1
 exact p3 a0 n (by omega) a2 s (maxLen_lt m) l a hsl hz x hx a6 (slv_ok hsl)
end Go.Proofs.Ytbceomdmpbmnkaa.vars
