/-
  VarsSafe: outputs are safe, no other cell is another one.
-/
import Derived.Test.YtbceomdmpbmnkaaV2
import Derived.Test.YtbceomdmpbmnkaaSyS
set_option maxRecDepth 100000
set_option linter.unusedVariables false
set_option linter.unusedSimpArgs false
namespace Go.Proofs.Ytbceomdmpbmnkaa.vars
open Go Go.Sx
def c20 : VC := ⟨⟨[], []⟩, [(36, [none])], [], 0, true, []⟩
def t20 : VT :=
 (.lt (.bin .eql 3 false false) [64, 67] 70 none
 (.ite 70
 (.lt (.bin .eql 2 false false) [65, 68] 71 none
 (.ite 71
 (.call 36 [66, 69] 72 [none]
 (.done (72)))
 (.done (.bool false))))
 (.done (.bool false))))
def c25 : VC := ⟨⟨[], []⟩, [], [], 0, true, []⟩
def t25 : VT :=
 (.done (.tup [J 0]))
def c4 : VC := ⟨⟨[], []⟩, [(6, [none]), (20, [none])], [], 0, true, [(25, ft25), (26, ft26)]⟩
def t4 : VT :=
 (.call 6 [] 65 [none]
 (.lt (.un .not) [65] 66 none
 (.ite 66
 (.done (.bool false))
 (.lt (.len 44) [64] 67 none
 (.lt (.bin .gtr 3 false true) [67, J 150] 68 none
 (.ite 68
 (.done (.bool true))
 (.callF 25 ft25 [64] 69
 (.cons 0
 (.callF 26 ft26 [64, J 0] 70
 (.cons 64
 (.call 20 [.agg [72, 73, 74], .agg [72, 73, 74]] 136 [none]
 (.lt (.un .not) [136] 137 none
 (.ite 137
 (.done (.bool false))
 (.call 20 [.agg [75, 76, 77], .agg [75, 76, 77]] 138 [none]
 (.lt (.un .not) [138] 139 none
 (.ite 139
 (.done (.bool false))
 (.call 20 [.agg [84, 85, 86], .agg [84, 85, 86]] 140 [none]
 (.lt (.un .not) [140] 141 none
 (.ite 141
 (.done (.bool false))
 (.call 20 [.agg [87, 88, 89], .agg [87, 88, 89]] 142 [none]
 (.lt (.un .not) [142] 143 none
 (.ite 143
 (.done (.bool false))
 (.call 20 [.agg [90, 91, 92], .agg [90, 91, 92]] 144 [none]
 (.lt (.un .not) [144] 145 none
 (.ite 145
 (.done (.bool false))
 (.call 20 [.agg [93, 94, 95], .agg [93, 94, 95]] 146 [none]
 (.lt (.un .not) [146] 147 none
 (.ite 147
 (.done (.bool false))
 (.call 20 [.agg [96, 97, 98], .agg [96, 97, 98]] 148 [none]
 (.lt (.un .not) [148] 149 none
 (.ite 149
 (.done (.bool false))
 (.call 20 [.agg [99, 100, 101], .agg [99, 100, 101]] 150 [none]
 (.lt (.un .not) [150] 151 none
 (.ite 151
 (.done (.bool false))
 (.call 20 [.agg [102, 103, 104], .agg [102, 103, 104]] 152 [none]
 (.lt (.un .not) [152] 153 none
 (.ite 153
 (.done (.bool false))
 (.call 20 [.agg [105, 106, 107], .agg [105, 106, 107]] 154 [none]
 (.lt (.un .not) [154] 155 none
 (.ite 155
 (.done (.bool false))
 (.call 20 [.agg [108, 109, 110], .agg [108, 109, 110]] 156 [none]
 (.lt (.un .not) [156] 157 none
 (.ite 157
 (.done (.bool false))
 (.call 20 [.agg [111, 112, 113], .agg [111, 112, 113]] 158 [none]
 (.lt (.un .not) [158] 159 none
 (.ite 159
 (.done (.bool false))
 (.call 20 [.agg [114, 115, 116], .agg [114, 115, 116]] 160 [none]
 (.lt (.un .not) [160] 161 none
 (.ite 161
 (.done (.bool false))
 (.call 20 [.agg [117, 118, 119], .agg [117, 118, 119]] 162 [none]
 (.lt (.un .not) [162] 163 none
 (.ite 163
 (.done (.bool false))
 (.call 20 [.agg [120, 121, 122], .agg [120, 121, 122]] 164 [none]
 (.lt (.un .not) [164] 165 none
 (.ite 165
 (.done (.bool false))
 (.call 20 [.agg [123, 124, 125], .agg [123, 124, 125]] 166 [none]
 (.lt (.un .not) [166] 167 none
 (.ite 167
 (.done (.bool false))
 (.call 20 [.agg [126, 127, 128], .agg [126, 127, 128]] 168 [none]
 (.lt (.un .not) [168] 169 none
 (.ite 169
 (.done (.bool false))
 (.call 20 [.agg [129, 130, 131], .agg [129, 130, 131]] 170 [none]
 (.lt (.un .not) [170] 171 none
 (.ite 171
 (.done (.bool false))
 (.call 20 [.agg [132, 133, 134], .agg [132, 133, 134]] 172 [none]
 (.lt (.un .not) [172] 173 none
 (.ite 173
 (.done (.bool false))
 (.done (.bool true)))))))))))))))))))))))))))))))))))))))))))))))))))))))))))
 .nil))
 .nil))))))))
theorem p6 : Pure Try.prog 6 [] (.bool true) := memo_ok (n := 300) mo ov (by kernel_rfl)
theorem p20 {v : GV} (h : v.f ∈ R15) : Pure Try.prog 20 [.agg (encV v), .agg (encV v)] (.bool true) := by
 have hf := okR h
 refine pure_shape (sh := [some 3, some 3]) (ls := encV v ++ encV v) (c := c20) (n := 300) (t := t20) mo ov rfl (by simp only [encV, List.cons_append, List.nil_append, okL, okC, hf]) rfl (fun Y _ => known0 _) rfl (by kernel_rfl) fun Y hf hg => ?_
 unfold t20
 refine VOK_lt (run_eql ..) rfl (VOK_ite rfl (fun _ => VOK_lt (run_eql ..) rfl (VOK_ite rfl (fun _ => VOK_call (w36 h) rfl rfl (VOK_done rfl)) (fun h => ?_))) (fun h => ?_))
 ·simp at h
 ·simp at h
theorem p25 (a : AV) (hA : okC a = true) : CF Try.prog 25 ft25 [a] (fun _ ws => ws = []) := by
 refine cf_tree (c := c25) (n := 300) (t := t25) mo ov rfl (fun Y _ => known0 _) (by kernel_rfl) fun Y hf hg => ?_
 unfold t25
 exact VOK_fin rfl rfl
theorem p4 {l : List UInt8} {a : AV} (hp : Pk l a) : Pure Try.prog 4 [a] (.bool true) := by
 have hA := hp.1.ok okC8
 refine pure_shape (sh := [none]) (ls := [a]) (c := c4) (n := 300) (t := t4) mo ov rfl (by simp only [okL, hA]) rfl (fun Y _ => known0 _) rfl (by kernel_rfl) fun Y hf hg => ?_
 unfold t4
 refine VOK_call p6 rfl rfl (VOK_lt rfl rfl (VOK_ite rfl (fun h => by cases h) (fun _ => ?_)))
 refine VOK_lt (len44 hp) rfl (VOK_lt (run_gtr ..) rfl (VOK_ite rfl (fun _ => VOK_done rfl) (fun _ => ?_)))
 refine callF' (p25 a hA) rfl (by simp only [okL, hA]) ⟨?_, trivial⟩
 rintro ws rfl
 refine callF' (p26 hp) rfl (by simp only [okL, okC, hA]) ⟨?_, trivial⟩
 rintro ws ⟨n, m, rfl, hm, hok⟩
 obtain ⟨v0, v1, v2, v3, v4, v5, v6, v7, v8, v9, v10, v11, v12, v13, v14, v15, v16, v17, v18, v19, v20, rfl⟩ : ∃ v0 v1 v2 v3 v4 v5 v6 v7 v8 v9 v10 v11 v12 v13 v14 v15 v16 v17 v18 v19 v20, m = [v0, v1, v2, v3, v4, v5, v6, v7, v8, v9, v10, v11, v12, v13, v14, v15, v16, v17, v18, v19, v20] := by
  obtain _ | ⟨v0, m⟩ := m
  ·cases hm
  obtain _ | ⟨v1, m⟩ := m
  ·cases hm
  obtain _ | ⟨v2, m⟩ := m
  ·cases hm
  obtain _ | ⟨v3, m⟩ := m
  ·cases hm
  obtain _ | ⟨v4, m⟩ := m
  ·cases hm
  obtain _ | ⟨v5, m⟩ := m
  ·cases hm
  obtain _ | ⟨v6, m⟩ := m
  ·cases hm
  obtain _ | ⟨v7, m⟩ := m
  ·cases hm
  obtain _ | ⟨v8, m⟩ := m
  ·cases hm
  obtain _ | ⟨v9, m⟩ := m
  ·cases hm
  obtain _ | ⟨v10, m⟩ := m
  ·cases hm
  obtain _ | ⟨v11, m⟩ := m
  ·cases hm
  obtain _ | ⟨v12, m⟩ := m
  ·cases hm
  obtain _ | ⟨v13, m⟩ := m
  ·cases hm
  obtain _ | ⟨v14, m⟩ := m
  ·cases hm
  obtain _ | ⟨v15, m⟩ := m
  ·cases hm
  obtain _ | ⟨v16, m⟩ := m
  ·cases hm
  obtain _ | ⟨v17, m⟩ := m
  ·cases hm
  obtain _ | ⟨v18, m⟩ := m
  ·cases hm
  obtain _ | ⟨v19, m⟩ := m
  ·cases hm
  obtain _ | ⟨v20, m⟩ := m
  ·cases hm
  obtain _ | ⟨v, m⟩ := m
  ·exact ⟨v0, v1, v2, v3, v4, v5, v6, v7, v8, v9, v10, v11, v12, v13, v14, v15, v16, v17, v18, v19, v20, rfl⟩
  ·simp at hm
 have h0 := (hok v0 (by simp)).2.2
 have h1 := (hok v1 (by simp)).2.2
 have h2 := (hok v2 (by simp)).2.2
 have h3 := (hok v3 (by simp)).2.2
 have h4 := (hok v4 (by simp)).2.2
 have h5 := (hok v5 (by simp)).2.2
 have h6 := (hok v6 (by simp)).2.2
 have h7 := (hok v7 (by simp)).2.2
 have h8 := (hok v8 (by simp)).2.2
 have h9 := (hok v9 (by simp)).2.2
 have h10 := (hok v10 (by simp)).2.2
 have h11 := (hok v11 (by simp)).2.2
 have h12 := (hok v12 (by simp)).2.2
 have h13 := (hok v13 (by simp)).2.2
 have h14 := (hok v14 (by simp)).2.2
 have h15 := (hok v15 (by simp)).2.2
 have h16 := (hok v16 (by simp)).2.2
 have h17 := (hok v17 (by simp)).2.2
 have h18 := (hok v18 (by simp)).2.2
 have h19 := (hok v19 (by simp)).2.2
 have h20 := (hok v20 (by simp)).2.2
 refine VOK_call (p20 h0) rfl rfl (VOK_lt rfl rfl (VOK_ite rfl (fun h => by cases h) (fun _ => ?_)))
 refine VOK_call (p20 h1) rfl rfl (VOK_lt rfl rfl (VOK_ite rfl (fun h => by cases h) (fun _ => ?_)))
 refine VOK_call (p20 h4) rfl rfl (VOK_lt rfl rfl (VOK_ite rfl (fun h => by cases h) (fun _ => ?_)))
 refine VOK_call (p20 h5) rfl rfl (VOK_lt rfl rfl (VOK_ite rfl (fun h => by cases h) (fun _ => ?_)))
 refine VOK_call (p20 h6) rfl rfl (VOK_lt rfl rfl (VOK_ite rfl (fun h => by cases h) (fun _ => ?_)))
 refine VOK_call (p20 h7) rfl rfl (VOK_lt rfl rfl (VOK_ite rfl (fun h => by cases h) (fun _ => ?_)))
 refine VOK_call (p20 h8) rfl rfl (VOK_lt rfl rfl (VOK_ite rfl (fun h => by cases h) (fun _ => ?_)))
 refine VOK_call (p20 h9) rfl rfl (VOK_lt rfl rfl (VOK_ite rfl (fun h => by cases h) (fun _ => ?_)))
 refine VOK_call (p20 h10) rfl rfl (VOK_lt rfl rfl (VOK_ite rfl (fun h => by cases h) (fun _ => ?_)))
 refine VOK_call (p20 h11) rfl rfl (VOK_lt rfl rfl (VOK_ite rfl (fun h => by cases h) (fun _ => ?_)))
 refine VOK_call (p20 h12) rfl rfl (VOK_lt rfl rfl (VOK_ite rfl (fun h => by cases h) (fun _ => ?_)))
 refine VOK_call (p20 h13) rfl rfl (VOK_lt rfl rfl (VOK_ite rfl (fun h => by cases h) (fun _ => ?_)))
 refine VOK_call (p20 h14) rfl rfl (VOK_lt rfl rfl (VOK_ite rfl (fun h => by cases h) (fun _ => ?_)))
 refine VOK_call (p20 h15) rfl rfl (VOK_lt rfl rfl (VOK_ite rfl (fun h => by cases h) (fun _ => ?_)))
 refine VOK_call (p20 h16) rfl rfl (VOK_lt rfl rfl (VOK_ite rfl (fun h => by cases h) (fun _ => ?_)))
 refine VOK_call (p20 h17) rfl rfl (VOK_lt rfl rfl (VOK_ite rfl (fun h => by cases h) (fun _ => ?_)))
 refine VOK_call (p20 h18) rfl rfl (VOK_lt rfl rfl (VOK_ite rfl (fun h => by cases h) (fun _ => ?_)))
 refine VOK_call (p20 h19) rfl rfl (VOK_lt rfl rfl (VOK_ite rfl (fun h => by cases h) (fun _ => ?_)))
 refine VOK_call (p20 h20) rfl rfl (VOK_lt rfl rfl (VOK_ite rfl (fun h => by cases h) (fun _ => ?_)))
 exact VOK_done rfl
end Go.Proofs.Ytbceomdmpbmnkaa.vars
set_option maxRecDepth 100000
set_option linter.unusedVariables false
set_option linter.unusedSimpArgs false
namespace Go.Proofs.Ytbceomdmpbmnkaa.vars
open Go Go.Sx
theorem rows_of {α : Type} {enc : α → List AV} {p : List AV → Prop} {q : α → Prop} (h : ∀ r, p r → ∃ a, r = enc a ∧ q a) : ∀ rows : List (List AV), (∀ r, r ∈ rows → p r) → ∃ l : List α, rows.flatten = encL enc l ∧ l.length = rows.length ∧ ∀ a, a ∈ l → q a
 | [], _ => ⟨[], rfl, rfl, fun a h => by cases h⟩
 | r :: rows, hr => by
   obtain ⟨a, rfl, ha⟩ := h r (hr r (List.mem_cons_self ..))
   obtain ⟨l, h1, h2, h3⟩ := rows_of h rows fun r h => hr r (List.mem_cons_of_mem _ h)
   refine ⟨a :: l, by rw [List.flatten_cons, h1]; rfl, by simp [h2], fun b hb => ?_⟩
   rcases List.mem_cons.1 hb with rfl | hb
   ·exact ha
   ·exact h3 b hb
theorem fit_u8 {r : List AV} (h : Sx.Fit Try.prog 5 r) : ∃ c : UInt8, r = encC c ∧ True := by
 obtain ⟨n, rfl, hn⟩ := fit_int_inv Try.underlying5 h
 have hn : 0 ≤ n ∧ n ≤ 255 := by simpa [Lit.wf, IntKind.min, IntKind.max, IntKind.bits, IntKind.signed] using hn
 refine ⟨n.toNat.toUInt8, ?_, trivial⟩
 have : ((n.toNat.toUInt8).toNat : Int) = n := by
  have h1 : n.toNat.toUInt8.toNat = n.toNat := by
   simp only [Nat.toUInt8, UInt8.toNat_ofNat']; omega
  rw [h1]; omega
 unfold encC
 rw [this]
theorem arg_u8s {H : Type} {enc : TypeId × Value → H} {W : World} {base : Nat} {v : Value} {dd : DataW H} {p ps : List MemPlace} (hok : Value.okWide Try.prog W .any base 44 v)
  (h : DataW.Trod enc Try.prog W 0 (fun _ => true) true 44 v dd p) (hps : ∀ q, q ∈ p → q ∈ ps) : ∃ (l : List UInt8) (a : AV), SlV encC 1 l a ∧ True ∧ l.length ≤ maxLen ∧ Con (envOf (imOf W ps)) a v := by
 rcases arg_slice (d := 5) Try.underlying44 (by kernel_rfl) hok h hps with rfl | ⟨rows, h1, h2, h3, h4⟩
 ·exact ⟨[], .nsl, .inr ⟨rfl, rfl⟩, trivial, Nat.zero_le _, by simp only [Con]⟩
 ·obtain ⟨l, k1, k2, k3⟩ := rows_of (enc := encC) (q := fun _ => True) (fun r hr => fit_u8 hr) rows h1
  have hc : Try.prog.cellsOf 5 = 1 := by kernel_rfl
  refine ⟨l, vslOf encC 1 l, .inl rfl, trivial, by omega, ?_⟩
  have h4' := h4
  rw [k1, hc, ← k2] at h4'
  exact h4'
theorem q4 {l : List UInt8} {x : AV} (sl : SlV encC 1 l x) (m : l.length ≤ maxLen) : Pure Try.prog 4 [x] (.bool true) :=
 p4 ⟨sl, by simp only [maxLen] at m; omega⟩
end Go.Proofs.Ytbceomdmpbmnkaa.vars
