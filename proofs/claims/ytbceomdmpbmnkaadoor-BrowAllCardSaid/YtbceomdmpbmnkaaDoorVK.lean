/-
  Pages and tags by their paths, of any variables.
-/
import Derived.Test.YtbceomdmpbmnkaaDoorVF
import Derived.KernelRfl
import Derived.Test.YtbceomdmpbmnkaaDoorSyS
set_option maxRecDepth 100000
set_option linter.unusedVariables false
set_option linter.unusedSimpArgs false
namespace Go.Proofs.YtbceomdmpbmnkaaDoor.vars
open Go Go.Sx
def c17 : VC := ⟨⟨[], []⟩, [(11, [none])], []⟩
def t17 : VT :=
 (.call 11 [.sym 64] 66 [none]
 (.lt (.bin .lss 3 false true) [.sym 65, .int .i64 0] 67 none
 (.ite 67
  (.done (.tup [.nsl, .int .i64 0, .int .i64 1]))
  (.lt (.len 26) [.sym 66] 68 none
  (.lt (.bin .gtr 3 false false) [.sym 65, .sym 68] 69 none
  (.ite 69
   (.done (.tup [.nsl, .int .i64 0, .int .i64 1]))
   (.lt (.bin .add 3 false true) [.sym 65, .int .i64 5] 70 none
   (.lt (.len 26) [.sym 66] 71 none
   (.lt (.mm false) [.sym 70, .sym 71] 72 none
   (.lt (.len 26) [.sym 66] 73 none
   (.lt (.bin .eql 3 false false) [.sym 72, .sym 73] 74 none
   (.ite 74
    (.lt (.slc 26 true true) [.sym 66, .sym 65, .sym 72] 75 none
    (.lt (.app 4 40) [.vsl 0 4 [], .sym 75] 76 none
    (.done (.tup [.sym 76, .int .i64 0, .int .i64 0]))))
    (.lt (.slc 26 true true) [.sym 66, .sym 65, .sym 72] 75 none
    (.lt (.app 4 40) [.vsl 0 4 [], .sym 75] 76 none
    (.done (.tup [.sym 76, .sym 72, .int .i64 0]))))))))))))))))
theorem p17 {a : AV} (ha : okC a = true) {T : List GTag} (hT : T.length ≤ 1000) (p11' : Pure Tryd.prog 11 [a] (tags T)) {k : Nat} (hk : k ≤ T.length) :
    ∃ r, TagV (pageF T k) r ∧ Pure Tryd.prog 17 [a, .int .i64 (k : Int)] (.tup [r, .int .i64 (nextF T k), .int .i64 0]) := by
  have hw : IntKind.i64.wrap ((k : Int) + 5) = ((k + 5 : Nat) : Int) := by rw [wrap64 (by omega) (by omega)]; rfl
  obtain ⟨e, he⟩ : ∃ e, e = min (k + 5) T.length := ⟨_, rfl⟩
  obtain ⟨q, hq, hqv⟩ := SlV.slc11 (P := Tryd.prog) (ti := (Tryd.prog.info? 29).get!) Tryd.underlying26 (by kernel_rfl) (by kernel_rfl) lenTag (SlV.of (w := 4) T) (k := .i64) (k' := .i64) (i := k) (j := e) (by omega) (by omega)
  have hpg : (T.take e).drop k = pageF T k := by
    unfold pageF
    rw [he, List.drop_take]
    by_cases h5 : k + 5 ≤ T.length
    · rw [Nat.min_eq_left h5]; congr 1; omega
    · rw [Nat.min_eq_right (by omega), List.take_of_length_le (by rw [List.length_drop]; omega), List.take_of_length_le (by rw [List.length_drop]; omega)]
  rw [hpg] at hqv
  have hpl := pageF_len T k
  obtain ⟨r, hr, hv⟩ := (SlV.v (enc := encTag) (w := 4) []).app (P := Tryd.prog) (bytes := 40) lenTag (by decide) (by decide) hqv (by simp only [List.length_nil]; omega)
  rw [List.nil_append] at hv
  have hmn : (XOp.mm false).run Tryd.prog [.int .i64 ((k + 5 : Nat) : Int), .int .i64 (T.length : Int)] = some (.int .i64 (e : Int)) := by rw [run_min, he]; congr 2; omega
  refine ⟨r, hv, ?_⟩
  refine pure_shape (sh := [none, none]) (ls := [a, .int .i64 k]) (c := c17) (n := 300) (t := t17) mo ov rfl (by simp only [okL, ha, okC]) (by simp only [noRef, noRefL, okC_noRef (hv.ok okTag)]) (fun Y _ => known0 _) rfl (by kernel_rfl) fun Y hf hg => ?_
  unfold t17
  refine VOK_call p11' rfl (okC1 (okTags _)) (VOK_lt (run_lss ..) rfl (VOK_ite rfl (fun h => ?_) (fun _ => VOK_lt (len26 T) rfl (VOK_lt (run_gtr ..) rfl (VOK_ite rfl (fun h => ?_) (fun _ => VOK_lt (addN (a := k) (b := 5) (by omega)) rfl (VOK_lt (len26 T) rfl (VOK_lt hmn rfl (VOK_lt (len26 T) rfl (VOK_lt (run_eql ..) rfl (VOK_ite rfl (fun h => VOK_lt hq (hqv.ok okTag) (VOK_lt hr (hv.ok okTag) (VOK_done ?_))) (fun h => VOK_lt hq (hqv.ok okTag) (VOK_lt hr (hv.ok okTag) (VOK_done ?_))))))))))))))
  · simp only [decide_eq_true_eq] at h; omega
  · simp only [decide_eq_true_eq] at h; omega
  · show AV.tup [r, .int .i64 0, .int .i64 0] = _
    have h : e = T.length := by simp only [decide_eq_true_eq] at h; omega
    unfold nextF; rw [if_pos (by omega)]
  · show AV.tup [r, .int .i64 (e : Int), .int .i64 0] = _
    have h : ¬ e = T.length := by simp only [decide_eq_false_iff_not] at h; omega
    unfold nextF; rw [if_neg (by omega), show e = k + 5 by omega]
theorem p17n {a : AV} (ha : okC a = true) {T : List GTag} (p11' : Pure Tryd.prog 11 [a] (tags T)) {k : Int} (hk : k < 0 ∨ (T.length : Int) < k) : Pure Tryd.prog 17 [a, .int .i64 k] (.tup [.nsl, .int .i64 0, .int .i64 1]) := by
  refine pure_shape (sh := [none, none]) (ls := [a, .int .i64 k]) (c := c17) (n := 300) (t := t17) mo ov rfl (by simp only [okL, ha, okC]) rfl (fun Y _ => known0 _) rfl (by kernel_rfl) fun Y hf hg => ?_
  unfold t17
  refine VOK_call p11' rfl (okC1 (okTags _)) (VOK_lt (run_lss ..) rfl (VOK_ite rfl (fun h => VOK_done rfl) (fun h => VOK_lt (len26 T) rfl (VOK_lt (run_gtr ..) rfl (VOK_ite rfl (fun h => VOK_done rfl) (fun h' => ?_))))))
  simp only [decide_eq_false_iff_not] at h h'; omega
/-- what is known of variables that are handed in: their tags, where they are not too many -/
structure Wild (a : AV) (n : Nat) : Prop where
  ok : okC a = true
  one : okL [a] = true
  len : (XOp.len 22).run Tryd.prog [a] = some (.int .i64 (n : Int))
  tags : n ≤ 20 → ∃ T : List GTag, T.length ≤ 96 ∧ (T.map GTag.path).Nodup ∧ Pure Tryd.prog 10 [a] (tags T) ∧ Pure Tryd.prog 11 [a] (tags T)
/-- both pages -/
theorem pages {a : AV} (ha : okC a = true) {T : List GTag} (hT : T.length ≤ 1000) (h10 : Pure Tryd.prog 10 [a] (tags T)) (h11 : Pure Tryd.prog 11 [a] (tags T)) (f : Int) :
    ∃ (p : List GTag) (r1 r2 : AV) (nx e : Int), p.length ≤ 1000 ∧ TagV p r1 ∧ TagV p r2 ∧ Pure Tryd.prog 16 [a, .int .i64 f] (.tup [r1, .int .i64 nx, .int .i64 e]) ∧ Pure Tryd.prog 17 [a, .int .i64 f] (.tup [r2, .int .i64 nx, .int .i64 e]) := by
  by_cases h : f < 0 ∨ (T.length : Int) < f
  · exact ⟨[], .nsl, .nsl, 0, 1, by simp, .inr ⟨rfl, rfl⟩, .inr ⟨rfl, rfl⟩, p16n ha h10 h, p17n ha h11 h⟩
  · obtain ⟨k, rfl⟩ : ∃ k : Nat, f = k := ⟨f.toNat, by omega⟩
    obtain ⟨r1, h1, h2⟩ := p16 ha hT h10 (k := k) (by omega)
    obtain ⟨r2, h3, h4⟩ := p17 ha hT h11 (k := k) (by omega)
    have := pageF_len T k
    exact ⟨pageF T k, r1, r2, nextF T k, 0, by omega, h1, h3, h2, h4⟩
theorem okI_tags (T : List GTag) : okI (tags T) = true := okC_okI (okTags T)
/-! ### a tag by its path -/
def findT (s : List UInt8) : List GTag → GTag × Bool
  | [] => (⟨[], 0, 0, 0⟩, false)
  | t :: r => if t.path = s then (t, true) else findT s r
theorem first_or (s : List UInt8) : ∀ T : List GTag, (∃ i, ∃ h : i < T.length, T[i].path = s ∧ (∀ j (h' : j < i), T[j].path ≠ s) ∧ findT s T = (T[i], true)) ∨ ((∀ j (h : j < T.length), T[j].path ≠ s) ∧ findT s T = (⟨[], 0, 0, 0⟩, false))
  | [] => .inr ⟨fun j h => by simp at h, rfl⟩
  | t :: r => by
    by_cases ht : t.path = s
    · exact .inl ⟨0, by simp, ht, fun j h => absurd h (Nat.not_lt_zero _), by simp [findT, ht]⟩
    · rcases first_or s r with ⟨i, h, h1, h2, h3⟩ | ⟨h1, h2⟩
      · refine .inl ⟨i + 1, by simpa using h, h1, fun j hj => ?_, by simp only [findT, if_neg ht, h3]; rfl⟩
        cases j with
        | zero => exact ht
        | succ j => exact h2 j (by omega)
      · refine .inr ⟨fun j h => ?_, by simp only [findT, if_neg ht, h2]⟩
        cases j with
        | zero => exact ht
        | succ j => exact h1 j (by simpa using h)
def c25 : VC := ⟨⟨[], []⟩, [], []⟩
def t25 : VT :=
 (.lt (.bin .eql 9 false false) [.sym 64, .sym 68] 69 none
 (.done (.sym 69)))
theorem p25 (t : GTag) (s : List UInt8) : Pure Tryd.prog 25 [.agg (encTag t), .vptr [.str s]] (.bool (decide (t.path = s))) := by
  refine pure_pat (args' := [.agg [.sym 64, .sym 65, .sym 66, .sym 67], .vptr [.sym 68]]) (ls := encTag t ++ [.str s]) (c := c25) (n := 300) (t := t25) mo ov rfl rfl rfl rfl (fun Y _ => rfl) (fun Y _ => known0 _) rfl (by kernel_rfl) fun Y hf hg => ?_
  unfold t25
  exact VOK_lt (run_eqs ..) rfl (VOK_done rfl)
def c24 : VC := ⟨⟨[], []⟩, [(25, [none])], [(0, [⟨[(8, .slx 0 0 0), (0, .sym 64), (1, .fn 25 [.vptr [.sym 65]]), (7, .sym 66)], [], 0, 1, [], []⟩])]⟩
def t24 : VT :=
 (.lt (.len 26) [.sym 64] 66 none
 (.loop 67 0 [.int .i64 0]
  (.cons 1
  (.lt (.bin .lss 3 false false) [.sym 67, .sym 66] 68 none
  (.ite 68
   (.lt (.iaddr 26) [.sym 64, .sym 67] 69 none
   (.lt (.load 29) [.sym 69] 70 (some 4)
   (.call 25 [.agg [.sym 70, .sym 71, .sym 72, .sym 73], .vptr [.sym 65]] 74 [none]
   (.ite 74
    (.done (.sym 67))
    (.lt (.bin .add 3 false true) [.sym 67, .int .i64 1] 75 none
    (.again 0 0 [.sym 75]))))))
   (.done (.int .i64 (-1)))))
  .nil)))
def idxT (s : List UInt8) : List GTag → Int → Int
  | [], _ => -1
  | t :: r, n => if t.path = s then n else idxT s r (n + 1)
theorem p24 (T : List GTag) (hT : T.length ≤ 1000) (s : List UInt8) : ((∃ i, ∃ h : i < T.length, T[i].path = s ∧ (∀ j (h' : j < i), T[j].path ≠ s) ∧ findT s T = (T[i], true)) → ∃ i, ∃ h : i < T.length, findT s T = (T[i], true) ∧ Pure Tryd.prog 24 [tags T, .fn 25 [.vptr [.str s]]] (.int .i64 (i : Int))) ∧
    (((∀ j (h : j < T.length), T[j].path ≠ s) ∧ findT s T = (⟨[], 0, 0, 0⟩, false)) → Pure Tryd.prog 24 [tags T, .fn 25 [.vptr [.str s]]] (.int .i64 (-1))) := by
  have key : ∀ (m : Nat) (hm : m ≤ T.length) (hne : ∀ j (h' : j < m), T[j].path ≠ s) (v : Int), ((h : m < T.length) → T[m].path = s ∧ v = m) → (m = T.length → v = -1) → Pure Tryd.prog 24 [tags T, .fn 25 [.vptr [.str s]]] (.int .i64 v) := by
    intro m hm hne v h1 h2
    refine pure_pat (args' := [.sym 64, .fn 25 [.vptr [.sym 65]]]) (ls := [tags T, .str s]) (c := c24) (n := 300) (t := t24) mo ov (by simp only [okIL, okI_tags]; rfl) rfl (by simp only [okL, okC, okTags]) rfl (fun Y _ => rfl) (fun Y _ => known0 _) rfl (by kernel_rfl) fun Y hf hg => ?_
    unfold t24
    refine VOK_lt (len26 T) rfl ?_
    refine VOK_loop (ι := Nat) (fun i => [.int .i64 i]) (fun i => i ≤ m) (fun i => T.length - i) 0 (Nat.zero_le _) rfl
      (fun i _ => rfl) (fun i j _ _ h => ?_) (fun i hi => ?_)
    · simp at h; have h : i = j := by omega
      rw [h]
    refine VOK_lt (run_lss ..) rfl (VOK_ite rfl (fun hlt => ?_) (fun hlt => VOK_done ?_))
    · have hlt : i < T.length := by simp only [decide_eq_true_eq] at hlt; omega
      refine VOK_lt (iaT (SlV.of T) hlt) (encL_ok okTag _) (VOK_ltN (ld29 hlt) rfl rfl (VOK_call (p25 T[i] s) rfl rfl (VOK_ite rfl (fun he => VOK_done ?_) (fun he => VOK_lt (run_add ..) rfl (VOK_again rfl ⟨i + 1, ?_, ?_, by omega⟩)))))
      · have he : T[i].path = s := of_decide_eq_true he
        have him : i = m := by
          rcases Nat.lt_or_ge i m with h | h
          · exact absurd he (hne i h)
          · omega
        subst him
        rw [(h1 hlt).2]; rfl
      · have he : ¬ T[i].path = s := of_decide_eq_false he
        rcases Nat.lt_or_ge i m with h | h
        · omega
        · have him : i = m := by omega
          subst him
          exact absurd (h1 hlt).1 he
      · rw [← wrapS hlt hT]; rfl
    · have he : i = T.length := by simp only [decide_eq_false_iff_not] at hlt; omega
      rw [h2 (by omega)]; rfl
  refine ⟨fun ⟨i, h, h1, h2, h3⟩ => ⟨i, h, h3, key i (by omega) (fun j h' => h2 j h') i (fun _ => ⟨h1, rfl⟩) (fun e => absurd e (Nat.ne_of_lt h))⟩, fun ⟨h1, _⟩ => key T.length (Nat.le_refl _) (fun j h' => h1 j h') (-1) (fun h => absurd h (by omega)) (fun _ => rfl)⟩
def c12 : VC := ⟨⟨[], []⟩, [(10, [none]), (24, [none])], []⟩
def t12 : VT :=
 (.call 10 [.sym 64] 66 [none]
 (.call 24 [.sym 66, .fn 25 [.vptr [.sym 65]]] 67 [none]
 (.lt (.bin .lss 3 false true) [.sym 67, .int .i64 0] 68 none
 (.ite 68
  (.done (.tup [.agg [.str [], .int .i64 0, .int .i64 0, .int .i64 0], .bool false]))
  (.lt (.iaddr 26) [.sym 66, .sym 67] 69 none
  (.lt (.load 29) [.sym 69] 70 (some 4)
  (.done (.tup [.agg [.sym 70, .sym 71, .sym 72, .sym 73], .bool true]))))))))
theorem p12 {a : AV} (ha : okC a = true) {T : List GTag} (hT : T.length ≤ 1000) (h10 : Pure Tryd.prog 10 [a] (tags T)) (s : List UInt8) : Pure Tryd.prog 12 [a, .str s] (.tup [.agg (encTag (findT s T).1), .bool (findT s T).2]) := by
  obtain ⟨k1, k2⟩ := p24 T hT s
  refine pure_shape (sh := [none, none]) (ls := [a, .str s]) (c := c12) (n := 300) (t := t12) mo ov rfl (by simp only [okL, ha, okC]) rfl (fun Y _ => known0 _) rfl (by kernel_rfl) fun Y hf hg => ?_
  unfold t12
  refine VOK_call h10 rfl (okC1 (okTags _)) ?_
  rcases first_or s T with h | h
  · obtain ⟨i, hi, hf, p24'⟩ := k1 h
    rw [hf]
    have hlss : (XOp.bin .lss 3 false true).run Tryd.prog [.int .i64 (i : Int), .int .i64 0] = some (.bool false) := by rw [run_lss, decide_eq_false (by omega)]
    exact VOK_call p24' rfl rfl (VOK_lt hlss rfl (VOK_iteF rfl (VOK_lt (iaT (SlV.of T) hi) (encL_ok okTag _) (VOK_ltN (ld29 hi) rfl rfl (VOK_done rfl)))))
  · have p24' := k2 h
    rw [h.2]
    exact VOK_call p24' rfl rfl (VOK_lt (r := .bool true) (by kernel_rfl) rfl (VOK_iteT rfl (VOK_done rfl)))
def c13 : VC := ⟨⟨[], []⟩, [(11, [none])], [(0, [⟨[(4, .ptr 0 0), (7, .slx 0 0 0), (6, .sym 66), (1, .sym 65)], [(0, [.str [], .int .i64 0, .int .i64 0, .int .i64 0])], 1, 1, [], []⟩])]⟩
def t13 : VT :=
 (.call 11 [.sym 64] 66 [none]
 (.loop 67 0 [.int .i64 0]
  (.cons 1
  (.lt (.len 26) [.sym 66] 68 none
  (.lt (.bin .lss 3 false false) [.sym 67, .sym 68] 69 none
  (.ite 69
   (.lt (.iaddr 26) [.sym 66, .sym 67] 70 none
   (.lt (.faddr 29 0) [.sym 70] 71 none
   (.lt (.load 9) [.sym 71] 72 none
   (.lt (.bin .eql 9 false false) [.sym 72, .sym 65] 73 none
   (.ite 73
    (.lt (.iaddr 26) [.sym 66, .sym 67] 74 none
    (.lt (.load 29) [.sym 74] 75 (some 4)
    (.done (.tup [.agg [.sym 75, .sym 76, .sym 77, .sym 78], .bool true]))))
    (.lt (.bin .add 3 false true) [.sym 67, .int .i64 1] 74 none
    (.again 0 0 [.sym 74])))))))
   (.done (.tup [.agg [.str [], .int .i64 0, .int .i64 0, .int .i64 0], .bool false])))))
  .nil)))
theorem p13 {a : AV} (ha : okC a = true) {T : List GTag} (hT : T.length ≤ 1000) (h11 : Pure Tryd.prog 11 [a] (tags T)) (s : List UInt8) : Pure Tryd.prog 13 [a, .str s] (.tup [.agg (encTag (findT s T).1), .bool (findT s T).2]) := by
  have key : ∀ (m : Nat) (hm : m ≤ T.length) (hne : ∀ j (h' : j < m), T[j].path ≠ s) (v : GTag × Bool), ((h : m < T.length) → T[m].path = s ∧ v = (T[m], true)) → (m = T.length → v = (⟨[], 0, 0, 0⟩, false)) → Pure Tryd.prog 13 [a, .str s] (.tup [.agg (encTag v.1), .bool v.2]) := by
    intro m hm hne v h1 h2
    refine pure_shape (sh := [none, none]) (ls := [a, .str s]) (c := c13) (n := 300) (t := t13) mo ov rfl (by simp only [okL, ha, okC]) rfl (fun Y _ => known0 _) rfl (by kernel_rfl) fun Y hf hg => ?_
    unfold t13
    refine VOK_call h11 rfl (okC1 (okTags _)) ?_
    refine VOK_loop (ι := Nat) (fun i => [.int .i64 i]) (fun i => i ≤ m) (fun i => T.length - i) 0 (Nat.zero_le _) rfl
      (fun i _ => rfl) (fun i j _ _ h => ?_) (fun i hi => ?_)
    · simp at h; have h : i = j := by omega
      rw [h]
    refine VOK_lt (len26 T) rfl (VOK_lt (run_lss ..) rfl (VOK_ite rfl (fun hlt => ?_) (fun hlt => VOK_done ?_)))
    · have hlt : i < T.length := by simp only [decide_eq_true_eq] at hlt; omega
      have okR : okL (encL encTag (T.drop (i + 1))) = true := encL_ok okTag _
      refine VOK_lt (ia26 hlt) (okRow okTag T[i] _) (VOK_lt (fa29_0 ..) okR (VOK_lt (ld9x ..) rfl (VOK_lt (run_eqs ..) rfl (VOK_ite rfl (fun he => VOK_lt (iaT (SlV.of T) hlt) (encL_ok okTag _) (VOK_ltN (ld29 hlt) rfl rfl (VOK_done ?_))) (fun he => VOK_lt (run_add ..) rfl (VOK_again rfl ⟨i + 1, ?_, ?_, by omega⟩))))))
      · have he : T[i].path = s := of_decide_eq_true he
        have him : i = m := by
          rcases Nat.lt_or_ge i m with h | h
          · exact absurd he (hne i h)
          · omega
        subst him
        rw [(h1 hlt).2]; rfl
      · have he : ¬ T[i].path = s := of_decide_eq_false he
        rcases Nat.lt_or_ge i m with h | h
        · omega
        · have him : i = m := by omega
          subst him
          exact absurd (h1 hlt).1 he
      · rw [← wrapS hlt hT]; rfl
    · have he : i = T.length := by simp only [decide_eq_false_iff_not] at hlt; omega
      rw [h2 (by omega)]; rfl
  rcases first_or s T with ⟨i, h, h1, h2, h3⟩ | ⟨h1, h2⟩
  · exact key i (by omega) (fun j h' => h2 j h') _ (fun _ => ⟨h1, h3⟩) (fun e => absurd e (Nat.ne_of_lt h))
  · exact key T.length (Nat.le_refl _) (fun j h' => h1 j h') _ (fun h => absurd h (by omega)) (fun _ => h2)
end Go.Proofs.YtbceomdmpbmnkaaDoor.vars
/-
  The law BrowAll answers true, from whichever tag on, whichever variables are left out, at any variables.
-/
set_option maxRecDepth 100000
set_option linter.unusedVariables false
set_option linter.unusedSimpArgs false
namespace Go.Proofs.YtbceomdmpbmnkaaDoor.vars
open Go Go.Sx
def c5 : VC := ⟨⟨[], []⟩, [(15, [none]), (9, [none]), (16, [none, none, none]), (17, [none, none, none])], [(0, [⟨[(8, .slx 0 0 0), (9, .sym 71), (7, .slx 0 10 1), (1, .sym 65), (2, .sym 66), (0, .sym 64)], [], 1, 2, [⟨0, 10, 1, 7, none⟩], []⟩]), (2, [⟨[(0, .sym 64), (10, .slx 0 0 0), (11, .slx 1 0 0)], [], 0, 2, [], []⟩]), (4, [⟨[(12, .slx 0 0 0), (11, .slx 1 0 0), (10, .slx 2 0 0), (0, .sym 64)], [], 0, 3, [], []⟩]), (6, [⟨[(20, .slx 0 0 0), (17, .slx 1 0 0), (14, .slx 2 0 0), (12, .slx 3 0 0), (93, .bool false), (90, .slx 4 0 0), (92, .slx 5 0 0), (91, .slx 6 0 0), (89, .slx 7 0 0), (86, .bool false), (84, .slx 8 0 0), (85, .slx 9 0 0), (11, .slx 10 0 0), (10, .slx 11 0 0), (0, .sym 64)], [], 0, 12, [], []⟩])]⟩
def t5 : VT :=
 (.call 15 [] 67 [none]
 (.lt (.un .not) [.sym 67] 68 none
 (.ite 68
  (.done (.bool false))
  (.lt (.len 22) [.sym 66] 69 none
  (.lt (.bin .gtr 3 false true) [.sym 69, .int .i64 20] 70 none
  (.ite 70
   (.done (.bool true))
   (.call 9 [] 71 [none]
   (.loop 72 0 [.int .i64 0, .nsl]
    (.cons 2
    (.lt (.len 22) [.sym 71] 74 none
    (.lt (.bin .lss 3 false false) [.sym 72, .sym 74] 75 none
    (.ite 75
     (.lt (.bin .shr 34 false false) [.sym 65, .sym 72] 76 none
     (.lt (.bin .and 34 false true) [.sym 76, .int .u16 1] 77 none
     (.lt (.bin .eql 34 false true) [.sym 77, .int .u16 0] 78 none
     (.ite 78
      (.lt (.iaddr 22) [.sym 71, .sym 72] 79 none
      (.lt (.load 39) [.sym 79] 80 (some 10)
      (.lt (.app 10 88) [.sym 73, .agg [.sym 80, .sym 81, .sym 82, .sym 83, .sym 84, .sym 85, .sym 86, .sym 87, .sym 88, .sym 89]] 90 none
      (.lt (.bin .add 3 false true) [.sym 72, .int .i64 1] 91 none
      (.again 0 0 [.sym 91, .sym 90])))))
      (.lt (.bin .add 3 false true) [.sym 72, .int .i64 1] 79 none
      (.again 0 0 [.sym 79, .sym 73]))))))
     (.loop 76 0 [.vsl 2 1 [.sym 73, .sym 66], .int .i64 0]
      (.cons 2
      (.lt (.bin .lss 3 false true) [.sym 77, .int .i64 2] 78 none
      (.ite 78
       (.loop 79 0 [.int .i64 (-1), .sym 77, .sym 76]
        (.cons 3
        (.lt (.bin .lss 3 false true) [.sym 79, .int .i64 20] 82 none
        (.ite 82
         (.lt (.bin .lss 3 false true) [.sym 79, .int .i64 0] 83 none
         (.ite 83
          (.lt (.iaddr 25) [.sym 81, .sym 80] 84 none
          (.lt (.load 22) [.sym 84] 85 none
          (.call 16 [.sym 85, .sym 64] 86 [none, none, none]
          (.lt (.iaddr 25) [.sym 81, .sym 80] 89 none
          (.lt (.load 22) [.sym 89] 90 none
          (.call 17 [.sym 90, .sym 64] 91 [none, none, none]
          (.lt (.bin .neq 3 false false) [.sym 87, .sym 92] 94 none
          (.ite 94
           (.done (.bool false))
           (.lt (.bin .neq 43 false false) [.sym 88, .sym 93] 95 none
           (.ite 95
            (.done (.bool false))
            (.lt (.len 26) [.sym 86] 96 none
            (.lt (.len 26) [.sym 91] 97 none
            (.lt (.bin .neq 3 false false) [.sym 96, .sym 97] 98 none
            (.ite 98
             (.done (.bool false))
             (.loop 99 0 [.int .i64 0, .sym 91, .sym 86, .sym 79, .sym 96, .sym 97, .sym 91, .sym 86, .sym 88, .sym 93, .sym 80, .sym 81]
              (.cons 12
              (.lt (.len 26) [.sym 100] 111 none
              (.lt (.bin .lss 3 false false) [.sym 99, .sym 111] 112 none
              (.ite 112
               (.lt (.iaddr 26) [.sym 101, .sym 99] 113 none
               (.lt (.load 29) [.sym 113] 114 (some 4)
               (.lt (.iaddr 26) [.sym 100, .sym 99] 118 none
               (.lt (.load 29) [.sym 118] 119 (some 4)
               (.lt (.bin .neq 29 false false) [.agg [.sym 114, .sym 115, .sym 116, .sym 117], .agg [.sym 119, .sym 120, .sym 121, .sym 122]] 123 none
               (.ite 123
                (.done (.bool false))
                (.lt (.bin .add 3 false true) [.sym 99, .int .i64 1] 124 none
                (.again 3 0 [.sym 124, .sym 100, .sym 101, .sym 102, .sym 103, .sym 104, .sym 105, .sym 106, .sym 107, .sym 108, .sym 109, .sym 110]))))))))
               (.lt (.bin .add 3 false true) [.sym 102, .int .i64 1] 113 none
               (.again 2 0 [.sym 113, .sym 109, .sym 110])))))
              .nil))))))))))))))))
          (.lt (.iaddr 25) [.sym 81, .sym 80] 84 none
          (.lt (.load 22) [.sym 84] 85 none
          (.call 16 [.sym 85, .sym 79] 86 [none, none, none]
          (.lt (.iaddr 25) [.sym 81, .sym 80] 89 none
          (.lt (.load 22) [.sym 89] 90 none
          (.call 17 [.sym 90, .sym 79] 91 [none, none, none]
          (.lt (.bin .neq 3 false false) [.sym 87, .sym 92] 94 none
          (.ite 94
           (.done (.bool false))
           (.lt (.bin .neq 43 false false) [.sym 88, .sym 93] 95 none
           (.ite 95
            (.done (.bool false))
            (.lt (.len 26) [.sym 86] 96 none
            (.lt (.len 26) [.sym 91] 97 none
            (.lt (.bin .neq 3 false false) [.sym 96, .sym 97] 98 none
            (.ite 98
             (.done (.bool false))
             (.loop 99 0 [.int .i64 0, .sym 91, .sym 86, .sym 79, .sym 96, .sym 97, .sym 91, .sym 86, .sym 88, .sym 93, .sym 80, .sym 81]
              (.cons 12
              (.lt (.len 26) [.sym 100] 111 none
              (.lt (.bin .lss 3 false false) [.sym 99, .sym 111] 112 none
              (.ite 112
               (.lt (.iaddr 26) [.sym 101, .sym 99] 113 none
               (.lt (.load 29) [.sym 113] 114 (some 4)
               (.lt (.iaddr 26) [.sym 100, .sym 99] 118 none
               (.lt (.load 29) [.sym 118] 119 (some 4)
               (.lt (.bin .neq 29 false false) [.agg [.sym 114, .sym 115, .sym 116, .sym 117], .agg [.sym 119, .sym 120, .sym 121, .sym 122]] 123 none
               (.ite 123
                (.done (.bool false))
                (.lt (.bin .add 3 false true) [.sym 99, .int .i64 1] 124 none
                (.again 3 0 [.sym 124, .sym 100, .sym 101, .sym 102, .sym 103, .sym 104, .sym 105, .sym 106, .sym 107, .sym 108, .sym 109, .sym 110]))))))))
               (.lt (.bin .add 3 false true) [.sym 102, .int .i64 1] 113 none
               (.again 2 0 [.sym 113, .sym 109, .sym 110])))))
              .nil))))))))))))))))))
         (.lt (.bin .add 3 false true) [.sym 80, .int .i64 1] 83 none
         (.again 1 0 [.sym 81, .sym 83]))))
        .nil))
       (.done (.bool true))))
      .nil)))))
    .nil)))))))))
theorem ld22 (x : AV) (r : List AV) : (XOp.load 22).run Tryd.prog [.vptr (x :: r)] = some x := run_load_one Tryd.underlying22 rfl x r
theorem okC1' {l : List AV} (h : okL l = true) : okC (.vptr l) = true := by simp only [okC]; exact h
theorem ia25_2 (x y : AV) : (XOp.iaddr 25).run Tryd.prog [.vsl 2 1 [x, y], .int .i64 0] = some (.vptr [x, y]) ∧ (XOp.iaddr 25).run Tryd.prog [.vsl 2 1 [x, y], .int .i64 1] = some (.vptr [y]) := ⟨by kernel_rfl, by kernel_rfl⟩
theorem p5 (fr g : Int) (a : AV) (n : Nat) (hw : Wild a n) : Pure Tryd.prog 5 [.int .i64 fr, .int .u16 g, a] (.bool true) := by
  refine pure_shape (sh := [none, none, none]) (ls := [.int .i64 fr, .int .u16 g, a]) (c := c5) (n := 300) (t := t5) mo ov rfl (by simp only [okL, okC, hw.ok]) rfl (fun Y _ => known0 _) rfl (by kernel_rfl) fun Y hf hg => ?_
  unfold t5
  obtain ⟨pv, hpv⟩ : ∃ pv, pv = playV := ⟨_, rfl⟩
  have p9' : Pure Tryd.prog 9 [] (vrs pv) := by rw [hpv]; exact p9
  have h12 : pv.length = 12 := by rw [hpv]; rfl
  refine VOK_call p15 rfl rfl (VOK_lt (run_not ..) rfl (VOK_iteF rfl (VOK_lt hw.len rfl (VOK_lt (run_gtr ..) rfl (VOK_ite rfl (fun h20 => VOK_done rfl) (fun h20 => VOK_call p9' rfl (okC1 (okVrs _)) ?_))))))
  have h20 : n ≤ 20 := by simp only [decide_eq_false_iff_not] at h20; omega
  obtain ⟨TW, hTW, _, hW10, hW11⟩ := hw.tags h20
  refine VOK_loop (ι := Nat) (fun i => [.int .i64 i, vrs (selF g (pv.take i) 0)]) (fun i => i ≤ pv.length) (fun i => pv.length - i) 0 (Nat.zero_le _) rfl
    (fun i _ => by simp only [okL, okC, okVrs]) (fun i j _ _ h => ?_) (fun i hi => ?_)
  · simp at h; have h : i = j := by omega
    rw [h]
  refine VOK_lt (len22 _) rfl (VOK_lt (run_lss ..) rfl (VOK_ite rfl (fun hlt => ?_) (fun hlt => ?_)))
  · -- one is looked at
    have hlt : i < pv.length := by simp only [decide_eq_true_eq] at hlt; omega
    have hti : (pv.take i).length = i := by rw [List.length_take]; omega
    have hsn := selF_snoc g pv[i] (pv.take i) 0
    rw [← take_snoc pv hlt, Nat.zero_add, hti] at hsn
    refine VOK_lt (run_shr g i) rfl (VOK_lt (run_and1 g i) rfl (VOK_lt (run_eql ..) rfl (VOK_ite rfl (fun hb => ?_) (fun hb => ?_))))
    · have hb : bitF g i = 0 := by simpa using hb
      rw [if_pos hb] at hsn
      refine VOK_lt (ia22 hlt) (encL_ok okVar _) (VOK_ltN (ld39 hlt) rfl rfl (VOK_lt (app10_88 _ _ ?_) (okVrs _) (VOK_lt (run_add ..) rfl (VOK_again rfl ⟨i + 1, hlt, ?_, by omega⟩))))
      · have := (selF_sub g (pv.take i) 0).length_le; omega
      · rw [hsn, ← wrapS hlt (by omega)]; rfl
    · have hb : ¬ bitF g i = 0 := by simpa using hb
      rw [if_neg hb, List.append_nil] at hsn
      refine VOK_lt (run_add ..) rfl (VOK_again rfl ⟨i + 1, hlt, ?_, by omega⟩)
      rw [hsn, ← wrapS hlt (by omega)]; rfl
  -- what is left
  have he : i = pv.length := by simp only [decide_eq_false_iff_not] at hlt; omega
  subst he
  rw [List.take_length]
  generalize hl : selF g pv 0 = l
  have hsub : l.Sublist playV := by rw [← hl, ← hpv]; exact selF_sub g pv 0
  have ho := own_sub hsub
  have hle := ho.le
  have hTl := tagsF_le l 0 ho.all
  have p10' := p10 l (by omega) ho.plain ho.may
  have p11' := p11 l ho
  have hvl : okC (vrs l) = true := okVrs l
  generalize tagsF l 0 = T at *
  have hTl : T.length ≤ 1000 := by omega
  obtain ⟨lots, hlotsE⟩ : ∃ lots, lots = AV.vsl 2 1 [vrs l, a] := ⟨_, rfl⟩
  have hlots : okC lots = true := by rw [hlotsE]; simp only [okC, okL, hvl, hw.ok]
  refine VOK_loop (ι := Nat) (fun nn => [lots, .int .i64 nn]) (fun nn => nn ≤ 2) (fun nn => 2 - nn) 0 (Nat.zero_le _) (by rw [hlotsE]; rfl)
    (fun i _ => by simp only [okL, okC, hlots]) (fun i j _ _ h => ?_) (fun nn hnn => ?_)
  · simp at h; have h : i = j := by omega
    rw [h]
  refine VOK_lt (run_lss ..) rfl (VOK_ite rfl (fun hn => ?_) (fun _ => VOK_done rfl))
  have hn : nn < 2 := by simp only [decide_eq_true_eq] at hn; omega
  -- the lot
  obtain ⟨b, TB, q, hbok, hTB, hb10, hb11, hlok, hia⟩ : ∃ (b : AV) (TB : List GTag) (q : List AV), okC b = true ∧ TB.length ≤ 1000 ∧ Pure Tryd.prog 10 [b] (tags TB) ∧ Pure Tryd.prog 11 [b] (tags TB) ∧ okL (b :: q) = true ∧ (XOp.iaddr 25).run Tryd.prog [lots, .int .i64 nn] = some (.vptr (b :: q)) := by
    rw [hlotsE]
    rcases (by omega : nn = 0 ∨ nn = 1) with rfl | rfl
    · exact ⟨vrs l, T, [a], hvl, hTl, p10', p11', by simp only [okL, hvl, hw.ok], (ia25_2 _ _).1⟩
    · exact ⟨a, TW, [], hw.ok, by omega, hW10, hW11, by simp only [okL, hw.ok], (ia25_2 _ _).2⟩
  refine VOK_loop (ι := Nat) (fun m => [.int .i64 (m - 1 : Int), .int .i64 nn, lots]) (fun m => m ≤ 21) (fun m => 21 - m) 0 (Nat.zero_le _) rfl
    (fun i _ => by simp only [okL, okC, hlots]) (fun i j _ _ h => ?_) (fun m hm => ?_)
  · simp at h; have h : i = j := by omega
    rw [h]
  refine VOK_lt (run_lss ..) rfl (VOK_ite rfl (fun hk => ?_) (fun hk => VOK_lt (run_add ..) rfl (VOK_again rfl ⟨nn + 1, hn, ?_, by omega⟩)))
  rotate_left
  · rw [← wrapS hn (by omega)]; rfl
  have hk : m < 21 := by simp only [decide_eq_true_eq] at hk; omega
  refine VOK_lt (run_lss ..) rfl (VOK_ite rfl (fun h0 => ?_) (fun h0 => ?_))
  · obtain ⟨p, r1, r2, nx, e, hp, hr1, hr2, g16, g17⟩ := pages hbok hTB hb10 hb11 fr
    refine VOK_lt hia (okC1' hlok) (VOK_lt (ld22 _ _) hbok (VOK_call g16 rfl (by simp only [okL, hr1.ok okTag, okC]) (VOK_lt hia (okC1' hlok) (VOK_lt (ld22 _ _) hbok (VOK_call g17 rfl (by simp only [okL, hr2.ok okTag, okC]) ?_)))))
    refine VOK_lt (neq_self ..) rfl (VOK_iteF rfl (VOK_lt (neq_self ..) rfl (VOK_iteF rfl (VOK_lt (lenT hr1) rfl (VOK_lt (lenT hr2) rfl (VOK_lt (neq_self ..) rfl (VOK_iteF rfl ?_)))))))
    refine VOK_loop (ι := Nat) (fun j => [.int .i64 j, r2, r1, .int .i64 (m - 1 : Int), .int .i64 (p.length : Int), .int .i64 (p.length : Int), r2, r1, .int .i64 e, .int .i64 e, .int .i64 nn, lots]) (fun j => j ≤ p.length) (fun j => p.length - j) 0 (Nat.zero_le _) rfl
      (fun i _ => by simp only [okL, okC, hr1.ok okTag, hr2.ok okTag, hlots]) (fun i j _ _ h => ?_) (fun j hj => ?_)
    · simp at h; have h : i = j := by omega
      rw [h]
    refine VOK_lt (lenT hr2) rfl (VOK_lt (run_lss ..) rfl (VOK_ite rfl (fun hlt => ?_) (fun hlt => VOK_lt (run_add ..) rfl (VOK_again rfl ⟨m + 1, by omega, ?_, by omega⟩))))
    · have hlt : j < p.length := by simp only [decide_eq_true_eq] at hlt; omega
      refine VOK_lt (iaT hr1 hlt) (encL_ok okTag _) (VOK_ltN (ld29 hlt) rfl rfl (VOK_lt (iaT hr2 hlt) (encL_ok okTag _) (VOK_ltN (ld29 hlt) rfl rfl (VOK_lt (run_neq_tag _) rfl (VOK_iteF rfl (VOK_lt (run_add ..) rfl (VOK_again rfl ⟨j + 1, hlt, ?_, by omega⟩)))))))
      rw [← wrapS hlt (by omega)]; rfl
    · have e1 : IntKind.i64.wrap ((m - 1 : Int) + 1) = ((m + 1 : Nat) : Int) - 1 := by rw [wrap64 (by omega) (by omega)]; omega
      rw [← e1]; rfl
  · obtain ⟨p, r1, r2, nx, e, hp, hr1, hr2, g16, g17⟩ := pages hbok hTB hb10 hb11 (m - 1 : Int)
    refine VOK_lt hia (okC1' hlok) (VOK_lt (ld22 _ _) hbok (VOK_call g16 rfl (by simp only [okL, hr1.ok okTag, okC]) (VOK_lt hia (okC1' hlok) (VOK_lt (ld22 _ _) hbok (VOK_call g17 rfl (by simp only [okL, hr2.ok okTag, okC]) ?_)))))
    refine VOK_lt (neq_self ..) rfl (VOK_iteF rfl (VOK_lt (neq_self ..) rfl (VOK_iteF rfl (VOK_lt (lenT hr1) rfl (VOK_lt (lenT hr2) rfl (VOK_lt (neq_self ..) rfl (VOK_iteF rfl ?_)))))))
    refine VOK_loop (ι := Nat) (fun j => [.int .i64 j, r2, r1, .int .i64 (m - 1 : Int), .int .i64 (p.length : Int), .int .i64 (p.length : Int), r2, r1, .int .i64 e, .int .i64 e, .int .i64 nn, lots]) (fun j => j ≤ p.length) (fun j => p.length - j) 0 (Nat.zero_le _) rfl
      (fun i _ => by simp only [okL, okC, hr1.ok okTag, hr2.ok okTag, hlots]) (fun i j _ _ h => ?_) (fun j hj => ?_)
    · simp at h; have h : i = j := by omega
      rw [h]
    refine VOK_lt (lenT hr2) rfl (VOK_lt (run_lss ..) rfl (VOK_ite rfl (fun hlt => ?_) (fun hlt => VOK_lt (run_add ..) rfl (VOK_again rfl ⟨m + 1, by omega, ?_, by omega⟩))))
    · have hlt : j < p.length := by simp only [decide_eq_true_eq] at hlt; omega
      refine VOK_lt (iaT hr1 hlt) (encL_ok okTag _) (VOK_ltN (ld29 hlt) rfl rfl (VOK_lt (iaT hr2 hlt) (encL_ok okTag _) (VOK_ltN (ld29 hlt) rfl rfl (VOK_lt (run_neq_tag _) rfl (VOK_iteF rfl (VOK_lt (run_add ..) rfl (VOK_again rfl ⟨j + 1, hlt, ?_, by omega⟩)))))))
      rw [← wrapS hlt (by omega)]; rfl
    · have e1 : IntKind.i64.wrap ((m - 1 : Int) + 1) = ((m + 1 : Nat) : Int) - 1 := by rw [wrap64 (by omega) (by omega)]; omega
      rw [← e1]; rfl
end Go.Proofs.YtbceomdmpbmnkaaDoor.vars
/-
  Tags of any variables: their paths are not the same.
-/
set_option maxRecDepth 100000
set_option linter.unusedVariables false
set_option linter.unusedSimpArgs false
namespace Go.Proofs.YtbceomdmpbmnkaaDoor.vars
open Go Go.Sx
/-! ### paths -/
def nameCh (c : UInt8) : Bool := decide ((97 ≤ c.toNat ∧ c.toNat ≤ 122) ∨ (48 ≤ c.toNat ∧ c.toNat ≤ 57))
theorem chars_all : ∀ (f : Bool) (s : List UInt8), chars f s = true → ∀ c, c ∈ s → nameCh c = true
  | _, [], _, c, h => by cases h
  | f, x :: r, h, c, hc => by
    simp only [chars, Bool.and_eq_true] at h
    rcases List.mem_cons.1 hc with rfl | hc
    · have := h.1
      simp only [okCh, decide_eq_true_eq] at this
      simp only [nameCh, decide_eq_true_eq]
      rcases this with h | ⟨_, h⟩
      · exact .inl h
      · exact .inr h
    · exact chars_all false r h.2 c hc
def stem (p : List UInt8) : List UInt8 := p.takeWhile nameCh
theorem stem_of {s x : List UInt8} (h : nameOk s = true) (hx : x = [] ∨ ∃ r, x = 46 :: r ∨ x = 91 :: r) : stem (s ++ x) = s := by
  have hs : ∀ c, c ∈ s → nameCh c = true := by
    unfold nameOk at h
    simp only [Bool.and_eq_true] at h
    exact chars_all true s h.2
  unfold stem
  rw [List.takeWhile_append_of_pos hs]
  have : x.takeWhile nameCh = [] := by
    rcases hx with rfl | ⟨r, rfl | rfl⟩
    · rfl
    · rfl
    · rfl
  rw [this, List.append_nil]
theorem stem_path {v : GVar} (h : nameOk v.name = true) {p : List UInt8} (hp : p ∈ pathsOf v) : stem p = v.name := by
  unfold pathsOf at hp
  split at hp
  · obtain ⟨i, _, rfl⟩ := List.mem_map.1 hp
    rw [List.append_assoc]
    exact stem_of h (.inr ⟨_, .inl rfl⟩)
  · split at hp
    · simp only [List.mem_cons, List.not_mem_nil, or_false] at hp
      subst hp
      have := stem_of (x := []) h (.inl rfl)
      rwa [List.append_nil] at this
    · obtain ⟨i, _, rfl⟩ := List.mem_map.1 hp
      rw [List.append_assoc, List.append_assoc]
      exact stem_of h (.inr ⟨_, .inr rfl⟩)
theorem nodup_map {α β : Type} {f : α → β} {l : List α} (hl : l.Nodup) (hf : ∀ a, a ∈ l → ∀ b, b ∈ l → f a = f b → a = b) : (l.map f).Nodup := by
  rw [List.Nodup, List.pairwise_map]
  refine List.Pairwise.imp_of_mem (fun {a b} ha hb hab h => hab (hf a ha b hb h)) hl
theorem names_cases (k : Int) : namesOf k = [[113], [101, 116]] ∨ namesOf k = [[113], [99, 118]] ∨ namesOf k = [[113]] ∨ namesOf k = [] := by
  unfold namesOf
  repeat' split
  all_goals simp
theorem path_nodup {v : GVar} (hs : v.size ≤ 8) : (pathsOf v).Nodup := by
  unfold pathsOf
  split
  · have hr2 : List.range 2 = [0, 1] := rfl
    have hr1 : List.range 1 = [0] := rfl
    rcases names_cases v.kind with e | e | e | e
    all_goals (rw [e]; simp [hr2, hr1])
  · split
    · simp
    · refine nodup_map List.nodup_range fun a ha b hb h => ?_
      have ha := List.mem_range.1 ha
      have hb := List.mem_range.1 hb
      simp only [List.append_assoc, List.append_cancel_left_eq] at h
      unfold digit at h
      simp only [List.cons_append, List.nil_append, List.cons.injEq, and_true] at h
      have := congrArg UInt8.toNat h
      simp only [UInt8.toNat_ofNat'] at this
      omega
theorem paths_nodup : ∀ (l : List GVar), l.all mayVar = true → (l.map GVar.name).Nodup → (pathsF l).Nodup
  | [], _, _ => by simp [pathsF]
  | v :: r, h, hn => by
    simp only [List.all_cons, Bool.and_eq_true] at h
    rw [List.map_cons, List.nodup_cons] at hn
    have hv := (may_facts h.1).1
    simp only [pathsF]
    rw [List.nodup_append]
    refine ⟨path_nodup (size_le h.1).1, paths_nodup r h.2 hn.2, fun p hp q hq e => ?_⟩
    subst e
    have h1 := stem_path hv hp
    obtain ⟨u, hu, hpu⟩ : ∃ u, u ∈ r ∧ p ∈ pathsOf u := by
      clear hn h1
      revert h
      induction r with
      | nil => simp [pathsF] at hq
      | cons w r ih =>
        intro h
        simp only [pathsF] at hq
        rcases List.mem_append.1 hq with hq | hq
        · exact ⟨w, List.mem_cons_self .., hq⟩
        · have hh := h.2
          simp only [List.all_cons, Bool.and_eq_true] at hh
          obtain ⟨u, h1, h2⟩ := ih hq ⟨h.1, hh.2⟩
          exact ⟨u, List.mem_cons_of_mem _ h1, h2⟩
    have hmu : mayVar u = true := by
      have := h.2
      rw [List.all_eq_true] at this
      exact this u hu
    have h2 := stem_path (may_facts hmu).1 hpu
    exact hn.1 (List.mem_map.2 ⟨u, hu, by rw [← h2, h1]⟩)
theorem may_nodup {l : List GVar} (h : mayE l = 0) : (l.map GVar.name).Nodup := by
  obtain ⟨h1, h2, h3, h4⟩ := may_all h
  by_cases hn : (l.map GVar.name).Nodup
  · exact hn
  · have := keys_lt l [] (.inl hn)
    simp only [List.length_nil, Nat.zero_add] at this
    omega
theorem own_tags {l : List GVar} (h : Own l) : ((tagsF l 0).map GTag.path).Nodup := by
  rw [paths_all]
  exact paths_nodup l h.all (may_nodup h.may)
/-! ### variables that may not be have no tags -/
theorem p10n (l : List GVar) (hl : l.length ≤ 1000) (hz : ∀ v ∈ l, Plain v) (hm : ¬ mayE l = 0) : Pure Tryd.prog 10 [vrs l] (tags []) := by
  have p19' := p19 l hl hz
  rw [if_neg hm] at p19'
  refine pure_shape (sh := [none]) (ls := [vrs l]) (c := c10) (n := 300) (t := t10) mo ov rfl (okC1 (okVrs l)) rfl (fun Y _ => known0 _) rfl (by kernel_rfl) fun Y hf hg => ?_
  unfold t10
  refine VOK_call p19' rfl rfl (VOK_lt (r := .int .i64 0) (by kernel_rfl) rfl ?_)
  refine VOK_loop (ι := Unit) (fun _ => [.int .i64 0, .nsl]) (fun _ => True) (fun _ => 0) () trivial rfl (fun _ _ => rfl) (fun _ _ _ _ _ => rfl) (fun _ _ => ?_)
  exact VOK_lt (run_lss ..) rfl (VOK_iteF rfl (VOK_done rfl))
theorem p21n (l : List GVar) (hl : l.length ≤ 1000) (hz : ∀ v ∈ l, Plain v) (hm : ¬ mayE l = 0) : Pure Tryd.prog 21 [vrs l] (.tup [.nsl, .int .i64 0]) := by
  refine pure_shape (sh := [none]) (ls := [vrs l]) (c := c21) (n := 300) (t := t21) mo ov rfl (okC1 (okVrs l)) rfl (fun Y _ => known0 _) rfl (by kernel_rfl) fun Y hf hg => ?_
  unfold t21
  have hne : (XOp.bin .neq 43 false true).run Tryd.prog [.int .i64 (mayE l), .int .i64 0] = some (.bool true) := by rw [run_neq, decide_eq_false hm]; rfl
  exact VOK_call (p26 l hl hz) rfl rfl (VOK_lt hne rfl (VOK_iteT rfl (VOK_done rfl)))
theorem p11n (l : List GVar) (hl : l.length ≤ 1000) (hz : ∀ v ∈ l, Plain v) (hm : ¬ mayE l = 0) : Pure Tryd.prog 11 [vrs l] (tags []) := by
  refine pure_shape (sh := [none]) (ls := [vrs l]) (c := c11) (n := 300) (t := t11) mo ov rfl (okC1 (okVrs l)) rfl (fun Y _ => known0 _) rfl (by kernel_rfl) fun Y hf hg => ?_
  unfold t11
  refine VOK_call (p21n l hl hz hm) rfl rfl ?_
  refine VOK_loop (ι := Unit) (fun _ => [.int .i64 0, .nsl]) (fun _ => True) (fun _ => 0) () trivial rfl (fun _ _ => rfl) (fun _ _ _ _ _ => rfl) (fun _ _ => ?_)
  exact VOK_lt (r := .int .i64 0) (by kernel_rfl) rfl (VOK_lt (run_lss ..) rfl (VOK_iteF rfl (VOK_done rfl)))
theorem wild_of (l : List GVar) (hz : ∀ v ∈ l, Plain v) : Wild (vrs l) l.length where
  ok := okVrs l
  one := okC1 (okVrs l)
  len := len22 l
  tags := fun h20 => by
    by_cases hm : mayE l = 0
    · have ho := own_of hm hz
      have h1 := tagsF_le l 0 ho.all
      have h2 := ho.le
      exact ⟨tagsF l 0, by omega, own_tags ho, p10 l (by omega) hz hm, p11 l ho⟩
    · exact ⟨[], by simp, by simp, p10n l (by omega) hz hm, p11n l (by omega) hz hm⟩
theorem wild_empty : Wild (.vsl 0 10 []) 0 where
  ok := rfl
  one := rfl
  len := by kernel_rfl
  tags := fun _ => ⟨[], by simp, by simp, memo_ok (n := 300) mo ov (by kernel_rfl), memo_ok (n := 300) mo ov (by kernel_rfl)⟩
theorem wild_slv {l : List GVar} {a : AV} (h : SlV encVar 10 l a) (hz : ∀ v ∈ l, Plain v) : Wild a l.length := by
  by_cases hl : l = []
  · subst hl
    rcases h with h | ⟨_, h⟩
    · rw [h]; exact wild_empty
    · rw [h]; exact wild_of [] hz
  · rw [h.eq hl]; exact wild_of l hz
end Go.Proofs.YtbceomdmpbmnkaaDoor.vars
/-
  The law PathAll answers true: at any variables, at any path.
-/
set_option maxRecDepth 100000
set_option linter.unusedVariables false
set_option linter.unusedSimpArgs false
namespace Go.Proofs.YtbceomdmpbmnkaaDoor.vars
open Go Go.Sx
def c3 : VC := ⟨⟨[], []⟩, [(8, [none]), (9, [none]), (10, [none]), (11, [none]), (12, [(some 4), none]), (13, [(some 4), none])], [(0, [⟨[(7, .slx 0 0 0), (8, .slx 1 0 0), (1, .sym 65)], [], 0, 2, [], []⟩]), (2, [⟨[(7, .slx 0 0 0), (8, .slx 1 0 0), (10, .slx 2 0 0), (11, .slx 3 0 0), (9, .slx 4 0 0), (1, .sym 65)], [], 0, 5, [], []⟩]), (4, [⟨[(15, .slx 0 0 0), (14, .slx 1 0 0), (8, .slx 2 0 0), (7, .slx 3 0 0), (1, .sym 65)], [], 0, 4, [], []⟩])]⟩
def t3 : VT :=
 (.call 8 [] 67 [none]
 (.lt (.un .not) [.sym 67] 68 none
 (.ite 68
  (.done (.bool false))
  (.lt (.len 22) [.sym 64] 69 none
  (.lt (.bin .gtr 3 false true) [.sym 69, .int .i64 20] 70 none
  (.ite 70
   (.done (.bool true))
   (.lt (.len 9) [.sym 65] 71 none
   (.lt (.bin .gtr 3 false true) [.sym 71, .int .i64 20] 72 none
   (.ite 72
    (.done (.bool true))
    (.call 9 [] 73 [none]
    (.call 9 [] 74 [none]
    (.lt (.conv 5 3) [.sym 66] 75 none
    (.lt (.bin .rem 3 false true) [.sym 75, .int .i64 12] 76 none
    (.lt (.slc 22 true false) [.sym 74, .sym 76] 77 none
    (.loop 78 0 [.vsl 3 1 [.sym 73, .sym 64, .sym 77], .int .i64 0]
     (.cons 2
     (.lt (.bin .lss 3 false true) [.sym 79, .int .i64 3] 80 none
     (.ite 80
      (.lt (.iaddr 25) [.sym 78, .sym 79] 81 none
      (.lt (.load 22) [.sym 81] 82 none
      (.call 10 [.sym 82] 83 [none]
      (.lt (.iaddr 25) [.sym 78, .sym 79] 84 none
      (.lt (.load 22) [.sym 84] 85 none
      (.call 11 [.sym 85] 86 [none]
      (.lt (.len 26) [.sym 83] 87 none
      (.lt (.len 26) [.sym 86] 88 none
      (.lt (.bin .neq 3 false false) [.sym 87, .sym 88] 89 none
      (.ite 89
       (.done (.bool false))
       (.loop 90 0 [.sym 78, .sym 79, .sym 86, .int .i64 0, .sym 83]
        (.cons 5
        (.lt (.len 26) [.sym 92] 95 none
        (.lt (.bin .lss 3 false false) [.sym 93, .sym 95] 96 none
        (.ite 96
         (.lt (.iaddr 26) [.sym 94, .sym 93] 97 none
         (.lt (.load 29) [.sym 97] 98 (some 4)
         (.lt (.iaddr 26) [.sym 92, .sym 93] 102 none
         (.lt (.load 29) [.sym 102] 103 (some 4)
         (.lt (.bin .neq 29 false false) [.agg [.sym 98, .sym 99, .sym 100, .sym 101], .agg [.sym 103, .sym 104, .sym 105, .sym 106]] 107 none
         (.ite 107
          (.done (.bool false))
          (.lt (.iaddr 25) [.sym 90, .sym 91] 108 none
          (.lt (.load 22) [.sym 108] 109 none
          (.lt (.iaddr 26) [.sym 92, .sym 93] 110 none
          (.lt (.faddr 29 0) [.sym 110] 111 none
          (.lt (.load 9) [.sym 111] 112 none
          (.call 12 [.sym 109, .sym 112] 113 [(some 4), none]
          (.lt (.un .not) [.sym 117] 118 none
          (.ite 118
           (.done (.bool false))
           (.lt (.iaddr 26) [.sym 92, .sym 93] 119 none
           (.lt (.load 29) [.sym 119] 120 (some 4)
           (.lt (.bin .neq 29 false false) [.agg [.sym 113, .sym 114, .sym 115, .sym 116], .agg [.sym 120, .sym 121, .sym 122, .sym 123]] 124 none
           (.ite 124
            (.done (.bool false))
            (.lt (.bin .add 3 false true) [.sym 93, .int .i64 1] 125 none
            (.again 1 0 [.sym 90, .sym 91, .sym 92, .sym 125, .sym 94]))))))))))))))))))))
         (.loop 97 0 [.int .i64 0, .vsl 13 1 [.sym 65, .str [116, 109], .str [116, 109, 46, 113], .str [116, 109, 46, 101, 116], .str [116, 109, 46, 99, 118], .str [99, 46, 99, 118], .str [101, 46, 113], .str [101, 46, 101, 116], .str [107], .str [107, 91, 48, 93], .str [107, 91], .str [97, 91, 48, 93], .str [116, 109, 46, 111, 110]], .sym 91, .sym 90]
          (.cons 4
          (.lt (.len 32) [.sym 98] 101 none
          (.lt (.bin .lss 3 false false) [.sym 97, .sym 101] 102 none
          (.ite 102
           (.lt (.iaddr 25) [.sym 100, .sym 99] 103 none
           (.lt (.load 22) [.sym 103] 104 none
           (.lt (.iaddr 32) [.sym 98, .sym 97] 105 none
           (.lt (.load 9) [.sym 105] 106 none
           (.call 12 [.sym 104, .sym 106] 107 [(some 4), none]
           (.lt (.iaddr 25) [.sym 100, .sym 99] 112 none
           (.lt (.load 22) [.sym 112] 113 none
           (.lt (.iaddr 32) [.sym 98, .sym 97] 114 none
           (.lt (.load 9) [.sym 114] 115 none
           (.call 13 [.sym 113, .sym 115] 116 [(some 4), none]
           (.lt (.bin .neq 29 false false) [.agg [.sym 107, .sym 108, .sym 109, .sym 110], .agg [.sym 116, .sym 117, .sym 118, .sym 119]] 121 none
           (.ite 121
            (.done (.bool false))
            (.lt (.bin .neq 4 false false) [.sym 111, .sym 120] 122 none
            (.ite 122
             (.done (.bool false))
             (.lt (.bin .add 3 false true) [.sym 97, .int .i64 1] 123 none
             (.again 2 0 [.sym 123, .sym 98, .sym 99, .sym 100]))))))))))))))))
           (.lt (.bin .add 3 false true) [.sym 99, .int .i64 1] 103 none
           (.again 0 0 [.sym 100, .sym 103])))))
          .nil)))))
        .nil))))))))))))
      (.done (.bool true))))
     .nil))))))))))))))))
theorem findT_at {T : List GTag} (hn : (T.map GTag.path).Nodup) {j : Nat} (hj : j < T.length) : findT T[j].path T = (T[j], true) := by
  rcases first_or T[j].path T with ⟨i, h, h1, h2, h3⟩ | ⟨h1, _⟩
  · have hij : i = j := by
      rcases Nat.lt_trichotomy i j with hlt | rfl | hlt
      · have := List.pairwise_iff_getElem.1 hn i j (by simpa using h) (by simpa using hj) hlt
        exact absurd (by simpa using h1) this
      · rfl
      · exact absurd rfl (h2 j hlt)
    subst hij
    exact h3
  · exact absurd rfl (h1 j hj)
def someP : List (List UInt8) := [[116, 109], [116, 109, 46, 113], [116, 109, 46, 101, 116], [116, 109, 46, 99, 118], [99, 46, 99, 118], [101, 46, 113], [101, 46, 101, 116], [107], [107, 91, 48, 93], [107, 91], [97, 91, 48, 93], [116, 109, 46, 111, 110]]
theorem ia25_3 (x y z : AV) : (XOp.iaddr 25).run Tryd.prog [.vsl 3 1 [x, y, z], .int .i64 0] = some (.vptr [x, y, z]) ∧ (XOp.iaddr 25).run Tryd.prog [.vsl 3 1 [x, y, z], .int .i64 1] = some (.vptr [y, z]) ∧ (XOp.iaddr 25).run Tryd.prog [.vsl 3 1 [x, y, z], .int .i64 2] = some (.vptr [z]) := ⟨by kernel_rfl, by kernel_rfl, by kernel_rfl⟩
theorem p8' : Pure Tryd.prog 8 [] (.bool true) := p8
theorem p3 (a : AV) (n : Nat) (hw : Wild a n) (s : List UInt8) (at' : Nat) (hat : at' < 256) : Pure Tryd.prog 3 [a, .str s, .int .u8 (at' : Int)] (.bool true) := by
  refine pure_shape (sh := [none, none, none]) (ls := [a, .str s, .int .u8 at']) (c := c3) (n := 300) (t := t3) mo ov rfl (by simp only [okL, okC, hw.ok]) rfl (fun Y _ => known0 _) rfl (by kernel_rfl) fun Y hf hg => ?_
  unfold t3
  refine VOK_call p8 rfl rfl (VOK_lt (run_not ..) rfl (VOK_iteF rfl (VOK_lt hw.len rfl (VOK_lt (run_gtr ..) rfl (VOK_ite rfl (fun h20 => VOK_done rfl) (fun h20 => VOK_lt (run_len_str str9 s) rfl (VOK_lt (run_gtr ..) rfl (VOK_ite rfl (fun hs => VOK_done rfl) (fun hs => ?_)))))))))
  have h20 : n ≤ 20 := by simp only [decide_eq_false_iff_not] at h20; omega
  obtain ⟨TW, hTW, hnW, hW10, hW11⟩ := hw.tags h20
  obtain ⟨k, hk⟩ : ∃ k, k = at' % 12 := ⟨_, rfl⟩
  have hcv : (XOp.conv 5 3).run Tryd.prog [.int .u8 (at' : Int)] = some (.int .i64 (at' : Int)) := by rw [cv_int Tryd.underlying5 Tryd.underlying3, wrap64 (by omega) (by omega)]
  have hrem : (XOp.bin .rem 3 false true).run Tryd.prog [.int .i64 (at' : Int), .int .i64 12] = some (.int .i64 (k : Int)) := by
    have := run_rem (t := 3) (cx := false) (cy := true) at' 12 (by omega)
    rw [← hk] at this; exact this
  obtain ⟨pv, hpv⟩ : ∃ pv, pv = playV := ⟨_, rfl⟩
  have p9' : Pure Tryd.prog 9 [] (vrs pv) := by rw [hpv]; exact p9
  have hpl : pv.length = 12 := by rw [hpv]; rfl
  have hpz : ∀ v ∈ pv, Plain v := by rw [hpv]; exact (play_may (List.Sublist.refl playV)).2.2
  obtain ⟨d, hd, hdv⟩ := SlV.slc10 (P := Tryd.prog) (ti := (Tryd.prog.info? 39).get!) Tryd.underlying22 (by kernel_rfl) (by kernel_rfl) lenVar (SlV.of (w := 10) pv) (k := .i64) (i := k) (by omega)
  have hw2 := wild_slv hdv (fun v hv => hpz v (List.drop_subset _ _ hv))
  have hw1 := wild_of pv hpz
  obtain ⟨T1, hT1, hn1, h1a, h1b⟩ := hw1.tags (by omega)
  obtain ⟨T2, hT2, hn2, h2a, h2b⟩ := hw2.tags (by rw [List.length_drop]; omega)
  refine VOK_call p9' rfl hw1.one (VOK_call p9' rfl hw1.one (VOK_lt hcv rfl (VOK_lt hrem rfl (VOK_lt hd hw2.ok ?_))))
  obtain ⟨lots, hlotsE⟩ : ∃ lots, lots = AV.vsl 3 1 [vrs pv, a, d] := ⟨_, rfl⟩
  have hlots : okC lots = true := by rw [hlotsE]; simp only [okC, okL, hw1.ok, hw.ok, hw2.ok]
  refine VOK_loop (ι := Nat) (fun nn => [lots, .int .i64 nn]) (fun nn => nn ≤ 3) (fun nn => 3 - nn) 0 (Nat.zero_le _) (by rw [hlotsE]; rfl)
    (fun i _ => by simp only [okL, okC, hlots]) (fun i j _ _ h => ?_) (fun nn hnn => ?_)
  · simp at h; have h : i = j := by omega
    rw [h]
  refine VOK_lt (run_lss ..) rfl (VOK_ite rfl (fun hn => ?_) (fun _ => VOK_done rfl))
  have hn : nn < 3 := by simp only [decide_eq_true_eq] at hn; omega
  obtain ⟨b, T, q, hbok, hT, hnd, hb10, hb11, hlok, hia⟩ : ∃ (b : AV) (TB : List GTag) (q : List AV), okC b = true ∧ TB.length ≤ 96 ∧ (TB.map GTag.path).Nodup ∧ Pure Tryd.prog 10 [b] (tags TB) ∧ Pure Tryd.prog 11 [b] (tags TB) ∧ okL (b :: q) = true ∧ (XOp.iaddr 25).run Tryd.prog [lots, .int .i64 nn] = some (.vptr (b :: q)) := by
    rw [hlotsE]
    rcases (by omega : nn = 0 ∨ nn = 1 ∨ nn = 2) with rfl | rfl | rfl
    · exact ⟨vrs pv, T1, [a, d], hw1.ok, hT1, hn1, h1a, h1b, by simp only [okL, hw1.ok, hw.ok, hw2.ok], (ia25_3 _ _ _).1⟩
    · exact ⟨a, TW, [d], hw.ok, hTW, hnW, hW10, hW11, by simp only [okL, hw.ok, hw2.ok], (ia25_3 _ _ _).2.1⟩
    · exact ⟨d, T2, [], hw2.ok, hT2, hn2, h2a, h2b, by simp only [okL, hw2.ok], (ia25_3 _ _ _).2.2⟩
  refine VOK_lt hia (okC1' hlok) (VOK_lt (ld22 _ _) hbok (VOK_call hb10 rfl (okC1 (okTags _)) (VOK_lt hia (okC1' hlok) (VOK_lt (ld22 _ _) hbok (VOK_call hb11 rfl (okC1 (okTags _)) (VOK_lt (len26 T) rfl (VOK_lt (len26 T) rfl (VOK_lt (neq_self ..) rfl (VOK_iteF rfl ?_)))))))))
  refine VOK_loop (ι := Nat) (fun j => [lots, .int .i64 nn, tags T, .int .i64 j, tags T]) (fun j => j ≤ T.length) (fun j => T.length - j) 0 (Nat.zero_le _) rfl
    (fun i _ => by simp only [okL, okC, okTags, hlots]) (fun i j _ _ h => ?_) (fun j hj => ?_)
  · simp at h; have h : i = j := by omega
    rw [h]
  refine VOK_lt (len26 T) rfl (VOK_lt (run_lss ..) rfl (VOK_ite rfl (fun hlt => ?_) (fun hlt => ?_)))
  · -- each tag is found
    have hlt : j < T.length := by simp only [decide_eq_true_eq] at hlt; omega
    have hf12 := p12 hbok (by omega) hb10 T[j].path
    rw [findT_at hnd hlt] at hf12
    have okR : okL (encL encTag (T.drop (j + 1))) = true := encL_ok okTag _
    refine VOK_lt (iaT (SlV.of T) hlt) (encL_ok okTag _) (VOK_ltN (ld29 hlt) rfl rfl (VOK_lt (iaT (SlV.of T) hlt) (encL_ok okTag _) (VOK_ltN (ld29 hlt) rfl rfl (VOK_lt (run_neq_tag _) rfl (VOK_iteF rfl ?_)))))
    refine VOK_lt hia (okC1' hlok) (VOK_lt (ld22 _ _) hbok (VOK_lt (ia26 hlt) (okRow okTag T[j] _) (VOK_lt (fa29_0 ..) okR (VOK_lt (ld9x ..) rfl (VOK_call hf12 rfl rfl (VOK_lt (run_not ..) rfl (VOK_iteF rfl ?_)))))))
    refine VOK_lt (iaT (SlV.of T) hlt) (encL_ok okTag _) (VOK_ltN (ld29 hlt) rfl rfl (VOK_lt (run_neq_tag _) rfl (VOK_iteF rfl (VOK_lt (run_add ..) rfl (VOK_again rfl ⟨j + 1, hlt, ?_, by omega⟩)))))
    rw [← wrapS hlt (by omega)]; rfl
  -- some paths
  obtain ⟨ps, hps⟩ : ∃ ps, ps = s :: someP := ⟨_, rfl⟩
  have hpsl : ps.length = 13 := by rw [hps]; rfl
  refine VOK_loop (ι := Nat) (fun j => [.int .i64 j, strs ps, .int .i64 nn, lots]) (fun j => j ≤ ps.length) (fun j => ps.length - j) 0 (Nat.zero_le _) (by rw [hps]; rfl)
    (fun i _ => by simp only [okL, okC, okStrs, hlots]) (fun i j _ _ h => ?_) (fun j hj => ?_)
  · simp at h; have h : i = j := by omega
    rw [h]
  refine VOK_lt (len32 ps) rfl (VOK_lt (run_lss ..) rfl (VOK_ite rfl (fun hlt => ?_) (fun hlt => VOK_lt (run_add ..) rfl (VOK_again rfl ⟨nn + 1, hn, ?_, by omega⟩))))
  rotate_left
  · rw [← wrapS hn (by omega)]; rfl
  have hlt : j < ps.length := by simp only [decide_eq_true_eq] at hlt; omega
  have hf12 := p12 hbok (by omega) hb10 ps[j]
  have hf13 := p13 hbok (by omega) hb11 ps[j]
  have hxx : ∀ b : Bool, (b != b) = false := fun b => by cases b <;> rfl
  have hnb : (XOp.bin .neq 4 false false).run Tryd.prog [.bool (findT ps[j] T).2, .bool (findT ps[j] T).2] = some (.bool false) := by rw [run_neqb, hxx]
  refine VOK_lt hia (okC1' hlok) (VOK_lt (ld22 _ _) hbok (VOK_lt (ia32 hlt) (encL_ok okS1 _) (VOK_lt (ld9 hlt) rfl (VOK_call hf12 rfl rfl ?_))))
  refine VOK_lt hia (okC1' hlok) (VOK_lt (ld22 _ _) hbok (VOK_lt (ia32 hlt) (encL_ok okS1 _) (VOK_lt (ld9 hlt) rfl (VOK_call hf13 rfl rfl ?_))))
  refine VOK_lt (run_neq_tag _) rfl (VOK_iteF rfl (VOK_lt hnb rfl (VOK_iteF rfl (VOK_lt (run_add ..) rfl (VOK_again rfl ⟨j + 1, hlt, ?_, by omega⟩)))))
  rw [← wrapS hlt (by omega)]; rfl
theorem p3w (a : AV) (n : Nat) (hw : Wild a n) (s : List UInt8) (a2 : Int) (w2 : (Lit.int .u8 a2).wf = true) : Pure Tryd.prog 3 [a, .str s, .int .u8 a2] (.bool true) := by
  simp only [Lit.wf, Bool.and_eq_true, decide_eq_true_eq] at w2
  have h1 : IntKind.u8.min = 0 := rfl
  have h2 : IntKind.u8.max = 255 := rfl
  obtain ⟨k, rfl⟩ : ∃ k : Nat, a2 = k := ⟨a2.toNat, by omega⟩
  exact p3 a n hw s k (by omega)
end Go.Proofs.YtbceomdmpbmnkaaDoor.vars
/-
  Variables that are handed in, as they are read.
-/
set_option maxRecDepth 100000
set_option linter.unusedVariables false
set_option linter.unusedSimpArgs false
namespace Go.Proofs.YtbceomdmpbmnkaaDoor.vars
open Go Go.Sx
theorem wf_f64 {n : Nat} (h : (Lit.float .f64 n).wf = true) : n < 18446744073709551616 := by simpa [Lit.wf] using h
theorem maxLen_lt {n : Nat} (h : n ≤ maxLen) : n < 9223372036854775808 := Nat.lt_of_le_of_lt h (by decide)
theorem fit_val {r : List AV} (h : Sx.Fit Tryd.prog 37 r) : ∃ v : GVal, r = encVal v ∧ v.f < 18446744073709551616 := by
  obtain ⟨parts, rfl, hl, hp⟩ := fit_struct_inv Tryd.underlying37 h
  have hl : parts.length = 3 := hl
  match parts, hl with
  | [p0, p1, p2], _ =>
    obtain ⟨k, rfl, _⟩ := fit_int_inv Tryd.underlying3 (show Sx.Fit Tryd.prog 3 p0 from hp 0 _ p0 rfl rfl)
    obtain ⟨i, rfl, _⟩ := fit_int_inv Tryd.underlying2 (show Sx.Fit Tryd.prog 2 p1 from hp 1 _ p1 rfl rfl)
    obtain ⟨f, rfl, hf⟩ := fit_flt_inv Tryd.underlying35 (show Sx.Fit Tryd.prog 35 p2 from hp 2 _ p2 rfl rfl)
    exact ⟨⟨k, i, f⟩, rfl, wf_f64 hf⟩
theorem fit_var {r : List AV} (h : Sx.Fit Tryd.prog 39 r) : ∃ v : GVar, r = encVar v ∧ Plain v := by
  obtain ⟨parts, rfl, hl, hp⟩ := fit_struct_inv Tryd.underlying39 h
  have hl : parts.length = 6 := hl
  match parts, hl with
  | [p0, p1, p2, p3, p4, p5], _ =>
    obtain ⟨s, rfl, hs⟩ := fit_str_inv Tryd.underlying9 (show Sx.Fit Tryd.prog 9 p0 from hp 0 _ p0 rfl rfl)
    obtain ⟨a, rfl, _⟩ := fit_int_inv Tryd.underlying3 (show Sx.Fit Tryd.prog 3 p1 from hp 1 _ p1 rfl rfl)
    obtain ⟨b, rfl, _⟩ := fit_int_inv Tryd.underlying3 (show Sx.Fit Tryd.prog 3 p2 from hp 2 _ p2 rfl rfl)
    obtain ⟨c, rfl, _⟩ := fit_int_inv Tryd.underlying3 (show Sx.Fit Tryd.prog 3 p3 from hp 3 _ p3 rfl rfl)
    obtain ⟨x, rfl, hx⟩ := fit_val (show Sx.Fit Tryd.prog 37 p4 from hp 4 _ p4 rfl rfl)
    obtain ⟨y, rfl, hy⟩ := fit_val (show Sx.Fit Tryd.prog 37 p5 from hp 5 _ p5 rfl rfl)
    exact ⟨⟨s, a, b, c, x, y⟩, rfl, hx, hy, maxLen_lt hs⟩
theorem rows_of {α : Type} {enc : α → List AV} {p : List AV → Prop} {q : α → Prop} (h : ∀ r, p r → ∃ a, r = enc a ∧ q a) : ∀ rows : List (List AV), (∀ r, r ∈ rows → p r) → ∃ l : List α, rows.flatten = encL enc l ∧ l.length = rows.length ∧ ∀ a, a ∈ l → q a
  | [], _ => ⟨[], rfl, rfl, fun a h => by cases h⟩
  | r :: rows, hr => by
    obtain ⟨a, rfl, ha⟩ := h r (hr r (List.mem_cons_self ..))
    obtain ⟨l, h1, h2, h3⟩ := rows_of h rows fun r h => hr r (List.mem_cons_of_mem _ h)
    refine ⟨a :: l, by rw [List.flatten_cons, h1]; rfl, by simp [h2], fun b hb => ?_⟩
    rcases List.mem_cons.1 hb with rfl | hb
    · exact ha
    · exact h3 b hb
/-- variables that are handed in -/
theorem arg_vars {H : Type} {enc : TypeId × Value → H} {W : World} {base : Nat} {v : Value} {dd : DataW H} {p ps : List MemPlace} (hok : Value.okWide Tryd.prog W .any base 22 v)
    (h : DataW.Trod enc Tryd.prog W 0 (fun _ => true) true 22 v dd p) (hps : ∀ q, q ∈ p → q ∈ ps) : ∃ (l : List GVar) (a : AV), SlV encVar 10 l a ∧ (∀ v ∈ l, Plain v) ∧ l.length ≤ maxLen ∧ Con (envOf (imOf W ps)) a v := by
  rcases arg_slice (d := 5) Tryd.underlying22 (by kernel_rfl) hok h hps with rfl | ⟨rows, h1, h2, h3, h4⟩
  · exact ⟨[], .nsl, .inr ⟨rfl, rfl⟩, fun v h => (by cases h), Nat.zero_le _, by simp only [Con]⟩
  · obtain ⟨l, k1, k2, k3⟩ := rows_of (enc := encVar) (q := Plain) (fun r hr => fit_var hr) rows h1
    have hc : Tryd.prog.cellsOf 39 = 10 := by kernel_rfl
    refine ⟨l, vslOf encVar 10 l, .inl rfl, k3, by omega, ?_⟩
    have h4' := h4
    rw [k1, hc, ← k2] at h4'
    exact h4'
end Go.Proofs.YtbceomdmpbmnkaaDoor.vars
