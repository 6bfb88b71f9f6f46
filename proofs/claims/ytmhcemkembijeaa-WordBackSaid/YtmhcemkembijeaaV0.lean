/-
  strings.IndexByte, strings.Contains at this program (laid by the shelf's own program in plain words).
-/
import Derived.Shelf.Small.Strs
import Derived.Shelf.Strings.Search3
import Derived.Test.YtmhcemkembijeaaProg
import Derived.Test.YtmhcemkembijeaaRows
import Derived.KernelRfl
import Derived.Lib.IndexMore
import Derived.Test.YtmhcemkembijeaaSyV
namespace Go.Proofs
open Go.Shelf
def Try.wlays137_ren : Go.Shelf.Ren := ⟨fun | 137 => 29 | 217 => 32 | 266 => 34 | n => n, fun | 9 => 9 | 5 => 5 | 3 => 3 | n => n, fun | n => n⟩
theorem Try.wlays137 : Go.Proofs.Lays.n137 Try.prog Try.wlays137_ren := {
  mixed := by kernel_rfl
  f137 := Try.func29.trans (congrArg some (by kernel_rfl))
  f217 := Try.func32.trans (congrArg some (by kernel_rfl))
  f266 := Try.func34.trans (congrArg some (by kernel_rfl))
  t3 := Try.underlying3
  a3 := Try.isAgg3
  z3 := Try.sizeOf3
  v3 := Try.zeroValue3
  t5 := Try.underlying5
  a5 := Try.isAgg5
  z5 := Try.sizeOf5
  v5 := Try.zeroValue5
  t9 := Try.underlying9
  a9 := Try.isAgg9
  z9 := Try.sizeOf9
  v9 := Try.zeroValue9 }
open Go.RowKit in
theorem Try.strings_IndexByte (s : ByteArray) (c : Int) (w : World) :
    Calls Try.prog 29 #[.string s, .int .u8 c] w fun e w' => e = .returned (.int .i64 (Lib.indexByte s.data.toList c.toNat.toUInt8)) ∧ w' = w := Any.strings_IndexByte Try.wlays137 s c w
def Try.wlays144_ren : Go.Shelf.Ren := ⟨fun | 144 => 28 | 143 => 31 | 219 => 33 | 217 => 32 | 225 => 35 | 224 => 36 | 267 => 37 | 266 => 34 | 314 => 38 | n => n, fun | 9 => 9 | 4 => 4 | 3 => 3 | 5 => 5 | 46 => 52 | 146 => 54 | 51 => 53 | n => n, fun | 1 => 1 | n => n⟩
theorem Try.wlays144 : Go.Proofs.Lays.n144 Try.prog Try.wlays144_ren := {
  mixed := by kernel_rfl
  f143 := Try.func31.trans (congrArg some (by kernel_rfl))
  f144 := Try.func28.trans (congrArg some (by kernel_rfl))
  f217 := Try.func32.trans (congrArg some (by kernel_rfl))
  f219 := Try.func33.trans (congrArg some (by kernel_rfl))
  f224 := Try.func36.trans (congrArg some (by kernel_rfl))
  f225 := Try.func35.trans (congrArg some (by kernel_rfl))
  f266 := Try.func34.trans (congrArg some (by kernel_rfl))
  f267 := Try.func37.trans (congrArg some (by kernel_rfl))
  f314 := Try.func38.trans (congrArg some (by kernel_rfl))
  t3 := Try.underlying3
  a3 := Try.isAgg3
  z3 := Try.sizeOf3
  v3 := Try.zeroValue3
  t4 := Try.underlying4
  a4 := Try.isAgg4
  z4 := Try.sizeOf4
  v4 := Try.zeroValue4
  t5 := Try.underlying5
  a5 := Try.isAgg5
  z5 := Try.sizeOf5
  v5 := Try.zeroValue5
  t9 := Try.underlying9
  a9 := Try.isAgg9
  z9 := Try.sizeOf9
  v9 := Try.zeroValue9
  t46 := Try.underlying52
  a46 := Try.isAgg52
  z46 := Try.sizeOf52
  v46 := Try.zeroValue52
  t51 := Try.underlying53
  a51 := Try.isAgg53
  z51 := Try.sizeOf53
  v51 := Try.zeroValue53
  t146 := Try.underlying54
  a146 := Try.isAgg54
  z146 := Try.sizeOf54
  v146 := Try.zeroValue54
  g1 := by kernel_rfl }
open Go.RowKit Go.Lib in
theorem Try.strings_Contains (s sub : ByteArray) (m : Int) (w : World) (hs : s.size < 4294967281) (hm : w.cell? ⟨1, 0, none⟩ = some (.int .i64 m)) :
    Calls Try.prog 28 #[.string s, .string sub] w fun e w' => e = .returned (.bool (Lib.contains s.data.toList sub.data.toList)) ∧ w' = w := Any.strings_Contains Try.wlays144 s sub m w hs hm
end Go.Proofs
/-
  What the functions of word come to, each by its tree: bytes, spans, blanks, numbers.
-/
set_option maxRecDepth 100000
set_option linter.unusedVariables false
set_option linter.unusedSimpArgs false
namespace Go.Proofs.Ytmhcemkembijeaa.vars
open Go Go.Sx
instance gI : Gl := glTI 1 []
theorem mo : Try.prog.follows .mixedOrders = true := by kernel_rfl
theorem ov : OvOk Try.prog := ov_nilI 1 Try.prog
theorem str9 : Try.prog.underlying 9 = some .string := Try.underlying9

/-! ### bytes -/
def isL (c : UInt8) : Bool := decide (97 ≤ (c.toNat : Int)) && decide ((c.toNat : Int) ≤ 122)
def isD (c : UInt8) : Bool := decide (48 ≤ (c.toNat : Int)) && decide ((c.toNat : Int) ≤ 57)
def isLD (c : UInt8) : Bool := isL c || isD c
def notNl (c : UInt8) : Bool := !decide ((c.toNat : Int) = 10)
theorem isD_iff (c : UInt8) : isD c = true ↔ 48 ≤ c.toNat ∧ c.toNat ≤ 57 := by
  unfold isD; simp only [Bool.and_eq_true, decide_eq_true_eq]; omega
theorem isL_iff (c : UInt8) : isL c = true ↔ 97 ≤ c.toNat ∧ c.toNat ≤ 122 := by
  unfold isL; simp only [Bool.and_eq_true, decide_eq_true_eq]; omega
def tL : VT :=
 (.lt (.bin .geq 5 false true) [.sym 64, .int .u8 97] 65 none
 (.ite 65
  (.lt (.bin .leq 5 false true) [.sym 64, .int .u8 122] 66 none
  (.done (.sym 66)))
  (.done (.bool false))))
def tD : VT :=
 (.lt (.bin .geq 5 false true) [.sym 64, .int .u8 48] 65 none
 (.ite 65
  (.lt (.bin .leq 5 false true) [.sym 64, .int .u8 57] 66 none
  (.done (.sym 66)))
  (.done (.bool false))))
def cE : VC := ⟨⟨[], []⟩, [], []⟩
theorem pL {f : FuncId} (c : UInt8) (ht : vFn Try.prog 300 cE f (shapes 64 [none]) 65 = tL) : Pure Try.prog f [.int .u8 (c.toNat : Int)] (.bool (isL c)) := by
  refine pure_shape (sh := [none]) (ls := [.int .u8 (c.toNat : Int)]) (c := cE) (n := 300) (t := tL) mo ov rfl rfl rfl (fun Y _ => known0 _) rfl ht fun Y hf hg => ?_
  unfold tL
  refine VOK_lt (run_geq ..) rfl (VOK_ite rfl (fun h => VOK_lt (run_leq ..) rfl (VOK_done ?_)) (fun h => VOK_done ?_))
  · show AV.bool _ = _
    unfold isL; rw [h]; rfl
  · show AV.bool _ = _
    unfold isL; rw [h]; rfl
theorem pD {f : FuncId} (c : UInt8) (ht : vFn Try.prog 300 cE f (shapes 64 [none]) 65 = tD) : Pure Try.prog f [.int .u8 (c.toNat : Int)] (.bool (isD c)) := by
  refine pure_shape (sh := [none]) (ls := [.int .u8 (c.toNat : Int)]) (c := cE) (n := 300) (t := tD) mo ov rfl rfl rfl (fun Y _ => known0 _) rfl ht fun Y hf hg => ?_
  unfold tD
  refine VOK_lt (run_geq ..) rfl (VOK_ite rfl (fun h => VOK_lt (run_leq ..) rfl (VOK_done ?_)) (fun h => VOK_done ?_))
  · show AV.bool _ = _
    unfold isD; rw [h]; rfl
  · show AV.bool _ = _
    unfold isD; rw [h]; rfl
theorem p17 (c : UInt8) : Pure Try.prog 17 [.int .u8 (c.toNat : Int)] (.bool (isL c)) := pL c (by kernel_rfl)
theorem p19 (c : UInt8) : Pure Try.prog 19 [.int .u8 (c.toNat : Int)] (.bool (isD c)) := pD c (by kernel_rfl)
theorem p22 (c : UInt8) : Pure Try.prog 22 [.int .u8 (c.toNat : Int)] (.bool (isL c)) := pL c (by kernel_rfl)
theorem p23 (c : UInt8) : Pure Try.prog 23 [.int .u8 (c.toNat : Int)] (.bool (isD c)) := pD c (by kernel_rfl)
def t16 : VT :=
 (.lt (.bin .neq 5 false true) [.sym 64, .int .u8 10] 65 none
 (.done (.sym 65)))
theorem p16 (c : UInt8) : Pure Try.prog 16 [.int .u8 (c.toNat : Int)] (.bool (notNl c)) := by
  refine pure_shape (sh := [none]) (ls := [.int .u8 (c.toNat : Int)]) (c := cE) (n := 300) (t := t16) mo ov rfl rfl rfl (fun Y _ => known0 _) rfl (by kernel_rfl) fun Y hf hg => ?_
  unfold t16
  exact VOK_lt (run_neq ..) rfl (VOK_done rfl)
def c18 : VC := ⟨⟨[], []⟩, [(17, [none]), (19, [none])], []⟩
def t18 : VT :=
 (.call 17 [.sym 64] 65 [none]
 (.ite 65
  (.done (.bool true))
  (.call 19 [.sym 64] 66 [none]
  (.done (.sym 66)))))
theorem p18 (c : UInt8) : Pure Try.prog 18 [.int .u8 (c.toNat : Int)] (.bool (isLD c)) := by
  refine pure_shape (sh := [none]) (ls := [.int .u8 (c.toNat : Int)]) (c := c18) (n := 300) (t := t18) mo ov rfl rfl rfl (fun Y _ => known0 _) rfl (by kernel_rfl) fun Y hf hg => ?_
  unfold t18
  refine VOK_call (p17 c) rfl rfl (VOK_ite rfl (fun h => VOK_done ?_) (fun h => VOK_call (p19 c) rfl rfl (VOK_done ?_)))
  · show AV.bool _ = _
    unfold isLD; rw [h]; rfl
  · show AV.bool _ = _
    unfold isLD; rw [h]; rfl

/-! ### how many at the front -/
def span (p : UInt8 → Bool) (s : List UInt8) : Nat := (s.takeWhile p).length
theorem span_le (p : UInt8 → Bool) (s : List UInt8) : span p s ≤ s.length := (List.takeWhile_sublist p).length_le
theorem span_at (p : UInt8 → Bool) (s : List UInt8) (n : Nat) (h : n < s.length) : span p (s.drop n) = if p s[n] then span p (s.drop (n + 1)) + 1 else 0 := by
  rw [List.drop_eq_getElem_cons h]
  unfold span
  rw [List.takeWhile_cons]
  split <;> rfl
theorem span_nil (p : UInt8 → Bool) : span p [] = 0 := rfl
def c15 (g : Nat) : VC := ⟨⟨[], []⟩, [(g, [none])], [(0, [⟨[(4, .slx 0 0 0), (0, .sym 64), (1, .fn g [])], [], 0, 1, [], []⟩])]⟩
def t15 (g : Nat) : VT :=
 (.loop 65 0 [.int .i64 0]
  (.cons 1
  (.lt (.len 9) [.sym 64] 66 none
  (.lt (.bin .lss 3 false false) [.sym 65, .sym 66] 67 none
  (.ite 67
   (.lt (.idx 9) [.sym 64, .sym 65] 68 none
   (.call g [.sym 68] 69 [none]
   (.ite 69
    (.lt (.bin .add 3 false true) [.sym 65, .int .i64 1] 70 none
    (.again 0 0 [.sym 70]))
    (.done (.sym 65)))))
   (.done (.sym 65)))))
  .nil))
theorem inc64 {n : Nat} (h : n < 9223372036854775807) : IntKind.i64.wrap ((n : Int) + 1) = ((n + 1 : Nat) : Int) := by rw [wrap64 (by omega) (by omega)]; rfl
theorem add64 {n m : Nat} (h : n + m < 9223372036854775808) : IntKind.i64.wrap ((n : Int) + m) = ((n + m : Nat) : Int) := by rw [wrap64 (by omega) (by omega)]; rfl
theorem p15g (g : Nat) (p : UInt8 → Bool) (hg : ∀ c : UInt8, Pure Try.prog g [.int .u8 (c.toNat : Int)] (.bool (p c))) (s : List UInt8) (hs : s.length < 9223372036854775808) (ht : vFn Try.prog 300 (c15 g) 15 [.sym 64, .fn g []] 65 = t15 g) :
    Pure Try.prog 15 [.str s, .fn g []] (.int .i64 (span p s : Int)) := by
  refine pure_pat (args' := [.sym 64, .fn g []]) (ls := [.str s]) (c := c15 g) (n := 300) (t := t15 g) mo ov rfl rfl rfl rfl (fun Y _ => rfl) (fun Y _ => known0 _) rfl ht fun Y hf hg' => ?_
  unfold t15
  refine VOK_loop (ι := Nat) (fun n => [.int .i64 (n : Int)]) (fun n => n ≤ s.length ∧ span p s = n + span p (s.drop n)) (fun n => s.length - n) 0 ⟨Nat.zero_le _, by simp⟩ rfl (fun _ _ => rfl) (fun i j _ _ h => ?_) (fun n hn => ?_)
  · simp at h; have h : i = j := by omega
    rw [h]
  obtain ⟨hn, hc⟩ := hn
  refine VOK_lt (run_len_str str9 s) rfl (VOK_lt (run_lss ..) rfl (VOK_ite rfl (fun hlt => ?_) (fun hlt => ?_)))
  · have hlt : n < s.length := by simp only [decide_eq_true_eq] at hlt; omega
    have hx := span_at p s n hlt
    refine VOK_lt (run_idx_str str9 s .i64 n hlt) rfl (VOK_call (hg _) rfl rfl (VOK_ite rfl (fun h => VOK_lt (run_add ..) rfl (VOK_again rfl ⟨n + 1, ⟨by omega, ?_⟩, ?_, by omega⟩)) (fun h => VOK_done ?_)))
    · rw [hc, hx, h]; simp; omega
    · exact congrArg (fun x => [AV.int .i64 x]) (inc64 (by omega))
    · rw [h] at hx
      show AV.int .i64 (n : Int) = _
      rw [hc, hx]; rfl
  · have hlt : ¬ n < s.length := by simp only [decide_eq_false_iff_not] at hlt; omega
    refine VOK_done ?_
    show AV.int .i64 (n : Int) = _
    rw [hc, List.drop_eq_nil_of_le (by omega)]; rfl
theorem p15nl (s : List UInt8) (hs : s.length < 9223372036854775808) : Pure Try.prog 15 [.str s, .fn 16 []] (.int .i64 (span notNl s : Int)) := p15g 16 notNl p16 s hs (by kernel_rfl)
theorem p15ld (s : List UInt8) (hs : s.length < 9223372036854775808) : Pure Try.prog 15 [.str s, .fn 18 []] (.int .i64 (span isLD s : Int)) := p15g 18 isLD p18 s hs (by kernel_rfl)
theorem p15d (s : List UInt8) (hs : s.length < 9223372036854775808) : Pure Try.prog 15 [.str s, .fn 19 []] (.int .i64 (span isD s : Int)) := p15g 19 isD p19 s hs (by kernel_rfl)

/-! ### what a text begins with -/
def c26 : VC := ⟨⟨[], []⟩, [], []⟩
def t26 : VT :=
 (.lt (.len 9) [.sym 64] 66 none
 (.lt (.len 9) [.sym 65] 67 none
 (.lt (.bin .geq 3 false false) [.sym 66, .sym 67] 68 none
 (.ite 68
  (.lt (.len 9) [.sym 65] 69 none
  (.lt (.slc 9 false true) [.sym 64, .sym 69] 70 none
  (.lt (.bin .eql 9 false false) [.sym 70, .sym 65] 71 none
  (.done (.sym 71)))))
  (.done (.bool false))))))
def pre (s p : List UInt8) : Bool := p.isPrefixOf s
theorem pre_take (s p : List UInt8) (h : p.length ≤ s.length) : pre s p = decide (s.take p.length = p) := by
  unfold pre
  rw [Bool.eq_iff_iff, List.isPrefixOf_iff_prefix, decide_eq_true_eq, List.prefix_iff_eq_take]
  exact ⟨fun h => h.symm, fun h => h.symm⟩
theorem p26 (s p : List UInt8) : Pure Try.prog 26 [.str s, .str p] (.bool (pre s p)) := by
  refine pure_shape (sh := [none, none]) (ls := [.str s, .str p]) (c := c26) (n := 300) (t := t26) mo ov rfl rfl rfl (fun Y _ => known0 _) rfl (by kernel_rfl) fun Y hf hg => ?_
  unfold t26
  refine VOK_lt (run_len_str str9 s) rfl (VOK_lt (run_len_str str9 p) rfl (VOK_lt (run_geq ..) rfl (VOK_ite rfl (fun h => ?_) (fun h => VOK_done ?_))))
  · have h : p.length ≤ s.length := by simp only [decide_eq_true_eq] at h; omega
    refine VOK_lt (run_len_str str9 p) rfl (VOK_lt (run_slc01_str str9 s .i64 p.length h) rfl (VOK_lt (run_eqs ..) rfl (VOK_done ?_)))
    show AV.bool _ = _
    rw [pre_take s p h]
  · have h : ¬ p.length ≤ s.length := by simp only [decide_eq_false_iff_not] at h; omega
    show AV.bool false = _
    congr 1
    symm
    unfold pre
    cases hb : p.isPrefixOf s with
    | false => rfl
    | true => exact absurd (List.isPrefixOf_iff_prefix.1 hb).length_le h
def c14 : VC := ⟨⟨[], []⟩, [(26, [none])], []⟩
def t14 : VT :=
 (.call 26 [.sym 64, .sym 65] 66 [none]
 (.done (.sym 66)))
theorem p14 (s p : List UInt8) : Pure Try.prog 14 [.str s, .str p] (.bool (pre s p)) := by
  refine pure_shape (sh := [none, none]) (ls := [.str s, .str p]) (c := c14) (n := 300) (t := t14) mo ov rfl rfl rfl (fun Y _ => known0 _) rfl (by kernel_rfl) fun Y hf hg => ?_
  unfold t14
  exact VOK_call (p26 s p) rfl rfl (VOK_done rfl)
theorem p29 (s : List UInt8) (c : UInt8) : Pure Try.prog 29 [.str s, .int .u8 (c.toNat : Int)] (.int .i64 (Lib.indexByte s c)) := by
  refine pure_call args_str_int (fun E => by simp only [Con]; rfl) fun E w _ _ => ?_
  have := Try.strings_IndexByte ⟨⟨s⟩⟩ (c.toNat : Int) w
  have e : (c.toNat : Int).toNat.toUInt8 = c := by simp
  rw [e] at this
  exact this
theorem p28 (s p : List UInt8) (hs : s.length < 4294967281) : Pure Try.prog 28 [.str s, .str p] (.bool (Lib.contains s p)) := by
  refine pure_call args_str_str (fun E => by simp only [Con]; rfl) fun E w hg hi => ?_
  obtain ⟨m, hm⟩ := cell_I hg hi
  exact Try.strings_Contains ⟨⟨s⟩⟩ ⟨⟨p⟩⟩ m w hs hm
end Go.Proofs.Ytmhcemkembijeaa.vars
/-
  What is passed over between words; numbers of digits; marks.
-/
set_option maxRecDepth 100000
set_option linter.unusedVariables false
set_option linter.unusedSimpArgs false
namespace Go.Proofs.Ytmhcemkembijeaa.vars
open Go Go.Sx
/-! ### blanks and remarks -/
def isB (c : UInt8) : Bool := decide (c = 32) || (decide (c = 9) || decide (c = 10))
/-- how many are passed over; whether a remark is open -/
def bl : Bool → List UInt8 → Nat
  | _, [] => 0
  | true, c :: r => 1 + bl (notNl c) r
  | false, c :: r => if isB c then 1 + bl false r else if c = 47 ∧ r.head? = some 47 then 1 + bl true r else 0
theorem nl_iff (c : UInt8) : notNl c = true ↔ c ≠ 10 := by
  unfold notNl
  rw [Bool.not_eq_true', decide_eq_false_iff_not]
  constructor
  · rintro h rfl; exact h rfl
  · intro h e; exact h (UInt8.toNat_inj.1 (by show c.toNat = 10; omega))
theorem bl_le : ∀ (b : Bool) (s : List UInt8), bl b s ≤ s.length
  | true, [] => Nat.le_refl _
  | false, [] => Nat.le_refl _
  | true, c :: r => by have := bl_le (notNl c) r; simp only [bl, List.length_cons]; omega
  | false, c :: r => by
    have h1 := bl_le false r
    have h2 := bl_le true r
    simp only [bl, List.length_cons]
    split
    · omega
    · split <;> omega
/-- a remark goes on to the end of its line -/
theorem bl_true (s : List UInt8) : bl true s = span notNl s + bl false (s.drop (span notNl s)) := by
  induction s with
  | nil => rfl
  | cons c r ih =>
    simp only [bl]
    unfold span at ih ⊢
    rw [List.takeWhile_cons]
    cases h : notNl c with
    | true =>
      simp only [reduceIte, List.length_cons, List.drop_succ_cons]
      rw [ih]; omega
    | false =>
      have : c = 10 := by
        by_cases e : c = 10
        · exact e
        · rw [(nl_iff c).2 e] at h; cases h
      subst this
      simp only [Bool.false_eq_true, reduceIte, List.length_nil, List.drop_zero, bl]
      rw [if_pos (by decide)]; omega
theorem int_u8 (c d : UInt8) : decide ((c.toNat : Int) = (d.toNat : Int)) = decide (c = d) := by
  rw [Bool.eq_iff_iff, decide_eq_true_eq, decide_eq_true_eq]
  constructor
  · intro h; exact UInt8.toNat_inj.1 (by omega)
  · rintro rfl; rfl
theorem at_eq {s : List UInt8} {n : Nat} (h : n < s.length) (d : UInt8) (k : Int) (hk : (d.toNat : Int) = k) (t : TypeId) (cx cy : Bool) : (XOp.bin .eql t cx cy).run Try.prog [.int .u8 (s[n].toNat : Int), .int .u8 k] = some (.bool (decide (s[n] = d))) := by
  rw [run_eql, ← hk, int_u8]
theorem pre_slash (c : UInt8) (r : List UInt8) : pre (c :: r) [47, 47] = (decide (c = 47 ∧ r.head? = some 47)) := by
  unfold pre
  cases r with
  | nil => simp [List.isPrefixOf]
  | cons d r =>
    simp only [List.isPrefixOf, List.head?_cons, Option.some.injEq]
    rw [Bool.eq_iff_iff]
    simp only [Bool.and_eq_true, beq_iff_eq, decide_eq_true_eq, and_true]
    exact ⟨fun ⟨a, b⟩ => ⟨a.symm, b.symm⟩, fun ⟨a, b⟩ => ⟨a.symm, b.symm⟩⟩
def c10 : VC := ⟨⟨[], []⟩, [(14, [none]), (15, [none])], [(0, [⟨[(2, .slx 0 0 0), (0, .sym 64)], [], 0, 1, [], []⟩])]⟩
def t10 : VT :=
 (.loop 65 0 [.int .i64 0]
  (.cons 1
  (.lt (.len 9) [.sym 64] 66 none
  (.lt (.bin .lss 3 false false) [.sym 65, .sym 66] 67 none
  (.ite 67
   (.lt (.idx 9) [.sym 64, .sym 65] 68 none
   (.lt (.bin .eql 5 false true) [.sym 68, .int .u8 32] 69 none
   (.ite 69
    (.lt (.bin .add 3 false true) [.sym 65, .int .i64 1] 70 none
    (.again 0 0 [.sym 70]))
    (.lt (.idx 9) [.sym 64, .sym 65] 70 none
    (.lt (.bin .eql 5 false true) [.sym 70, .int .u8 9] 71 none
    (.ite 71
     (.lt (.bin .add 3 false true) [.sym 65, .int .i64 1] 72 none
     (.again 0 0 [.sym 72]))
     (.lt (.idx 9) [.sym 64, .sym 65] 72 none
     (.lt (.bin .eql 5 false true) [.sym 72, .int .u8 10] 73 none
     (.ite 73
      (.lt (.bin .add 3 false true) [.sym 65, .int .i64 1] 74 none
      (.again 0 0 [.sym 74]))
      (.lt (.slc 9 true false) [.sym 64, .sym 65] 74 none
      (.call 14 [.sym 74, .str [47, 47]] 75 [none]
      (.ite 75
       (.lt (.slc 9 true false) [.sym 64, .sym 65] 76 none
       (.call 15 [.sym 76, .fn 16 []] 77 [none]
       (.lt (.bin .add 3 false false) [.sym 65, .sym 77] 78 none
       (.again 0 0 [.sym 78]))))
       (.done (.sym 65))))))))))))))
   (.done (.sym 65)))))
  .nil))
theorem p10 (s : List UInt8) (hs : s.length < 9223372036854775807) : Pure Try.prog 10 [.str s] (.int .i64 (bl false s : Int)) := by
  refine pure_shape (sh := [none]) (ls := [.str s]) (c := c10) (n := 300) (t := t10) mo ov rfl rfl rfl (fun Y _ => known0 _) rfl (by kernel_rfl) fun Y hf hg => ?_
  unfold t10
  refine VOK_loop (ι := Nat) (fun n => [.int .i64 (n : Int)]) (fun n => n ≤ s.length ∧ bl false s = n + bl false (s.drop n)) (fun n => s.length - n) 0 ⟨Nat.zero_le _, by simp⟩ rfl (fun _ _ => rfl) (fun i j _ _ h => ?_) (fun n hn => ?_)
  · simp at h; have h : i = j := by omega
    rw [h]
  obtain ⟨hn, hc⟩ := hn
  refine VOK_lt (run_len_str str9 s) rfl (VOK_lt (run_lss ..) rfl (VOK_ite rfl (fun hlt => ?_) (fun hlt => ?_)))
  · have hlt : n < s.length := by simp only [decide_eq_true_eq] at hlt; omega
    have hd := List.drop_eq_getElem_cons hlt
    have hblank : isB s[n] = true → bl false s = n + 1 + bl false (s.drop (n + 1)) := fun h => by
      rw [hc, hd]; simp only [bl, h, reduceIte]; omega
    refine VOK_lt (run_idx_str str9 s .i64 n hlt) rfl (VOK_lt (at_eq hlt 32 32 rfl ..) rfl (VOK_ite rfl (fun h32 => VOK_lt (run_add ..) rfl (VOK_again rfl ⟨n + 1, ⟨hlt, hblank ?_⟩, congrArg (fun x => [AV.int .i64 x]) (inc64 (by omega)), by omega⟩)) (fun h32 => ?_)))
    · unfold isB; rw [h32]; rfl
    refine VOK_lt (run_idx_str str9 s .i64 n hlt) rfl (VOK_lt (at_eq hlt 9 9 rfl ..) rfl (VOK_ite rfl (fun h9 => VOK_lt (run_add ..) rfl (VOK_again rfl ⟨n + 1, ⟨hlt, hblank ?_⟩, congrArg (fun x => [AV.int .i64 x]) (inc64 (by omega)), by omega⟩)) (fun h9 => ?_)))
    · unfold isB; rw [h9]; simp
    refine VOK_lt (run_idx_str str9 s .i64 n hlt) rfl (VOK_lt (at_eq hlt 10 10 rfl ..) rfl (VOK_ite rfl (fun h10 => VOK_lt (run_add ..) rfl (VOK_again rfl ⟨n + 1, ⟨hlt, hblank ?_⟩, congrArg (fun x => [AV.int .i64 x]) (inc64 (by omega)), by omega⟩)) (fun h10 => ?_)))
    · unfold isB; rw [h10]; simp
    have hno : isB s[n] = false := by unfold isB; rw [h32, h9, h10]; rfl
    refine VOK_lt (run_slc10_str str9 s .i64 n hn) rfl (VOK_call (p14 _ _) rfl rfl (VOK_ite rfl (fun hp => ?_) (fun hp => VOK_done ?_)))
    · have hp' : s[n] = 47 ∧ (s.drop (n + 1)).head? = some 47 := by
        have := pre_slash s[n] (s.drop (n + 1))
        rw [← hd, hp] at this
        exact of_decide_eq_true this.symm
      have hsp : span notNl (s.drop n) ≤ (s.drop n).length := span_le _ _
      have hsp1 : 1 ≤ span notNl (s.drop n) := by
        rw [span_at notNl s n hlt, (nl_iff _).2 (by rw [hp'.1]; decide), if_pos rfl]; omega
      rw [List.length_drop] at hsp
      refine VOK_lt (run_slc10_str str9 s .i64 n hn) rfl (VOK_call (p15nl (s.drop n) (by rw [List.length_drop]; omega)) rfl rfl (VOK_lt (run_add ..) rfl (VOK_again rfl ⟨n + span notNl (s.drop n), ⟨by omega, ?_⟩, congrArg (fun x => [AV.int .i64 x]) (add64 (by omega)), by omega⟩)))
      have e : bl false (s.drop n) = bl true (s.drop n) := by
        conv => lhs; rw [hd]
        simp only [bl, hno, Bool.false_eq_true, reduceIte, if_pos hp']
        conv => rhs; rw [hd]
        simp only [bl, (nl_iff s[n]).2 (by rw [hp'.1]; decide)]
      rw [hc, e, bl_true, List.drop_drop]; omega
    · have hp' : ¬ (s[n] = 47 ∧ (s.drop (n + 1)).head? = some 47) := by
        have := pre_slash s[n] (s.drop (n + 1))
        rw [← hd, hp] at this
        exact of_decide_eq_false this.symm
      show AV.int .i64 (n : Int) = _
      rw [hc, hd]; simp only [bl, hno, Bool.false_eq_true, reduceIte, if_neg hp']; rfl
  · have hlt : ¬ n < s.length := by simp only [decide_eq_false_iff_not] at hlt; omega
    refine VOK_done ?_
    show AV.int .i64 (n : Int) = _
    rw [hc, List.drop_eq_nil_of_le (by omega)]; rfl

/-! ### the number of digits -/
def val (s : List UInt8) : Nat := s.foldl (fun v c => v * 10 + (c.toNat - 48)) 0
theorem val_snoc (s : List UInt8) (c : UInt8) : val (s ++ [c]) = val s * 10 + (c.toNat - 48) := by
  unfold val; rw [List.foldl_append]; rfl
theorem val_take (s : List UInt8) (n : Nat) (h : n < s.length) : val (s.take (n + 1)) = val (s.take n) * 10 + (s[n].toNat - 48) := by
  rw [List.take_succ_eq_append_getElem h, val_snoc]
theorem val_lt : ∀ (n : Nat) (s : List UInt8), s.length = n → (∀ c ∈ s, isD c = true) → val s < 10 ^ n
  | 0, s, h, _ => by obtain rfl : s = [] := List.length_eq_zero_iff.1 h; decide
  | n + 1, s, h, hd => by
    have hl : n < s.length := by omega
    have e : s = s.take n ++ [s[n]] := by
      rw [← List.take_succ_eq_append_getElem hl, List.take_of_length_le (by omega)]
    have h1 := val_lt n (s.take n) (by rw [List.length_take]; omega) fun c hc => hd c (List.mem_of_mem_take hc)
    have h2 := (isD_iff s[n]).1 (hd _ (List.getElem_mem hl))
    rw [e, val_snoc, Nat.pow_succ]; omega
def c27 : VC := ⟨⟨[], []⟩, [], [(0, [⟨[(6, .slx 0 0 0), (0, .sym 64), (2, .slx 1 0 0), (5, .sym 65)], [], 0, 2, [], []⟩])]⟩
def t27 : VT :=
 (.lt (.len 9) [.sym 64] 65 none
 (.loop 66 0 [.int .i64 0, .int .i64 0]
  (.cons 2
  (.lt (.bin .lss 3 false false) [.sym 66, .sym 65] 68 none
  (.ite 68
   (.lt (.bin .mul 2 true false) [.int .i64 10, .sym 67] 69 none
   (.lt (.idx 9) [.sym 64, .sym 66] 70 none
   (.lt (.bin .sub 5 false true) [.sym 70, .int .u8 48] 71 none
   (.lt (.conv 5 2) [.sym 71] 72 none
   (.lt (.bin .add 2 false false) [.sym 69, .sym 72] 73 none
   (.lt (.bin .add 3 false true) [.sym 66, .int .i64 1] 74 none
   (.again 0 0 [.sym 74, .sym 73])))))))
   (.done (.sym 67))))
  .nil)))
theorem dig_wrap {c : UInt8} (h : isD c = true) : IntKind.u8.wrap ((c.toNat : Int) - 48) = ((c.toNat - 48 : Nat) : Int) := by
  have := (isD_iff c).1 h
  simp [IntKind.wrap, IntKind.bits, IntKind.signed]; omega
theorem pow15 {n : Nat} (h : n ≤ 15) : 10 ^ n ≤ 1000000000000000 := Nat.pow_le_pow_right (by decide) h
theorem p27 (s : List UInt8) (hs : s.length ≤ 15) (hd : ∀ c ∈ s, isD c = true) : Pure Try.prog 27 [.str s] (.int .i64 (val s : Int)) := by
  refine pure_shape (sh := [none]) (ls := [.str s]) (c := c27) (n := 300) (t := t27) mo ov rfl rfl rfl (fun Y _ => known0 _) rfl (by kernel_rfl) fun Y hf hg => ?_
  unfold t27
  refine VOK_lt (run_len_str str9 s) rfl (VOK_loop (ι := Nat) (fun n => [.int .i64 (n : Int), .int .i64 (val (s.take n) : Int)]) (fun n => n ≤ s.length) (fun n => s.length - n) 0 (Nat.zero_le _) rfl (fun _ _ => rfl) (fun i j _ _ h => ?_) (fun n hn => ?_))
  · simp at h; have h : i = j := by omega
    rw [h]
  refine VOK_lt (run_lss ..) rfl (VOK_ite rfl (fun hlt => ?_) (fun hlt => ?_))
  · have hlt : n < s.length := by simp only [decide_eq_true_eq] at hlt; omega
    have hdn := hd _ (List.getElem_mem hlt)
    have hv := val_lt n (s.take n) (by rw [List.length_take]; omega) fun c hc => hd c (List.mem_of_mem_take hc)
    have hp := pow15 (n := n) (by omega)
    have hdig := (isD_iff _).1 hdn
    refine VOK_lt (run_mul ..) rfl (VOK_lt (run_idx_str str9 s .i64 n hlt) rfl (VOK_lt (run_sub ..) rfl (VOK_lt (run_conv_ii Try.underlying5 Try.underlying2 _) rfl (VOK_lt (run_add ..) rfl (VOK_lt (run_add ..) rfl (VOK_again rfl ⟨n + 1, hlt, ?_, by omega⟩))))))
    rw [dig_wrap hdn, wrap64 (x := 10 * _) (by omega) (by omega), wrap64 (x := ((_ : Nat) : Int)) (by omega) (by omega), wrap64 (by omega) (by omega), inc64 (by omega)]
    refine congrArg (fun x => [AV.int .i64 ((n + 1 : Nat) : Int), AV.int .i64 x]) ?_
    rw [val_take s n hlt]; omega
  · have hlt : ¬ n < s.length := by simp only [decide_eq_false_iff_not] at hlt; omega
    refine VOK_done ?_
    show AV.int .i64 _ = _
    rw [List.take_of_length_le (by omega)]
end Go.Proofs.Ytmhcemkembijeaa.vars
/-
  Numbers, marks, words at the front of a text.
-/
set_option maxRecDepth 100000
set_option linter.unusedVariables false
set_option linter.unusedSimpArgs false
namespace Go.Proofs.Ytmhcemkembijeaa.vars
open Go Go.Sx
/-! ### reals -/
/-- ten to the k, as a real -/
def tensT (k : Nat) : Nat := FloatKind.f64.nearest ((10 ^ k : Nat) : Int)
def ten : Nat := 4621819117588971520
theorem tens_all : ((List.range 15).all fun k => FloatKind.f64.format.mul (tensT k) ten == some (tensT (k + 1))) = true := by kernel_rfl
theorem tens_mul {k : Nat} (h : k < 15) : FloatKind.f64.format.mul (tensT k) ten = some (tensT (k + 1)) := by
  have := List.all_eq_true.1 tens_all k (List.mem_range.2 h)
  exact eq_of_beq this
def posB (n : Nat) : Bool := match Ieee.double.read n with
  | .number _ m _ => m != 0
  | _ => false
theorem tens_pos_all : ((List.range 16).all fun k => posB (tensT k)) = true := by kernel_rfl
theorem tens_pos {k : Nat} (h : k ≤ 15) : posB (tensT k) = true := List.all_eq_true.1 tens_pos_all k (List.mem_range.2 (by omega))
theorem nan_word (neg : Bool) (r : Nat) (h : r ≤ 9218868437227405312) : nanB (Ieee.double.word neg r) = false := by
  have e : Ieee.double.word neg r = if neg then 9223372036854775808 + r else r := rfl
  rw [e]
  unfold nanB
  rw [decide_eq_false_iff_not]
  split <;> omega
theorem nan_nearest (neg : Bool) (m : Nat) (p : Int) : nanB (Ieee.double.nearest neg m p) = false := by
  have e2 : Ieee.double.infRung = 9218868437227405312 := rfl
  unfold Ieee.Format.nearest
  split
  · exact nan_word neg 0 (by omega)
  · exact nan_word neg _ (by rw [e2]; exact Nat.min_le_right _ _)
theorem nan_int (v : Int) : nanB (FloatKind.f64.nearest v) = false := nan_nearest _ _ _
/-- v by ten to the k -/
def quoF (v k : Nat) : Nat := (Ieee.double.div (FloatKind.f64.nearest (v : Int)) (tensT k)).getD 0
theorem div_some {x y : Nat} (hx : nanB x = false) (hy : posB y = true) : ∃ z, Ieee.double.div x y = some z := by
  unfold Ieee.Format.div
  unfold posB at hy
  split at hy
  case h_2 => cases hy
  rename_i t n j e
  rw [e]
  have hn : n ≠ 0 := by simpa using hy
  rcases read_cases x with ⟨h, _⟩ | ⟨_, _, s, ex⟩ | ⟨_, _, ⟨s, m, i, _, _, ex⟩ | ⟨s, ex⟩⟩
  · rw [hx] at h; cases h
  · rw [ex]
    simp only [Ieee.Datum.quotient, if_neg hn, Option.map_some]
    exact ⟨_, rfl⟩
  · rw [ex]
    simp only [Ieee.Datum.quotient, if_neg hn, Option.map_some]
    exact ⟨_, rfl⟩
  · rw [ex]
    simp only [Ieee.Datum.quotient, Option.map_some]
    exact ⟨_, rfl⟩
theorem run_tens (t : TypeId) (cx cy : Bool) {k : Nat} (h : k < 15) : (XOp.bin .mul t cx cy).run Try.prog [.flt .f64 (tensT k), .flt .f64 ten] = some (.flt .f64 (tensT (k + 1))) := by
  rw [run_flt]
  show some (mkF .f64 (FloatKind.f64.format.mul (tensT k) ten)) = _
  rw [tens_mul h]; rfl
theorem run_quo (t : TypeId) (cx cy : Bool) (v : Nat) {k : Nat} (h : k ≤ 15) : (XOp.bin .quo t cx cy).run Try.prog [.flt .f64 (FloatKind.f64.nearest (v : Int)), .flt .f64 (tensT k)] = some (.flt .f64 (quoF v k)) := by
  rw [run_flt]
  show some (mkF .f64 (Ieee.double.div (FloatKind.f64.nearest (v : Int)) (tensT k))) = _
  obtain ⟨z, hz⟩ := div_some (nan_int v) (tens_pos h)
  unfold quoF
  rw [hz]; rfl

/-! ### words -/
structure GWord where
  kind : Int
  s : List UInt8
  n : Int
  f : Nat
  place : Int
def encW (w : GWord) : List AV := [.int .i64 w.kind, .str w.s, .int .i64 w.n, .flt .f64 w.f, .int .i64 w.place]
def noW : GWord := ⟨0, [], 0, 0, 0⟩
/-- how many digits there are behind a point -/
def behind : List UInt8 → Nat
  | c :: r => if c = 46 then span isD r else 0
  | [] => 0
def isMs : List UInt8 → Bool
  | a :: b :: t => decide (a = 109) && (decide (b = 115) && match t with | [] => true | c :: _ => !isLD c)
  | _ => false
def msS (s : List UInt8) : GWord × Nat := if isMs (s.drop (span isD s)) then (⟨4, [], val (s.take (span isD s)), 0, 0⟩, span isD s + 2) else (⟨2, [], val (s.take (span isD s)), 0, 0⟩, span isD s)
def realS (s : List UInt8) (b : Nat) : GWord × Nat := (⟨3, [], 0, quoF (val (s.take (span isD s) ++ (s.drop (span isD s + 1)).take b)) b, 0⟩, span isD s + 1 + b)
def numS (s : List UInt8) : Option (GWord × Nat) :=
  if 15 < span isD s + behind (s.drop (span isD s)) then none
  else if 0 < behind (s.drop (span isD s)) then some (realS s (behind (s.drop (span isD s))))
  else some (msS s)
def oneRes (no : GWord) : Option (GWord × Nat) → AV
  | some (w, n) => .tup [.agg (encW w), .int .i64 (n : Int), .bool true]
  | none => .tup [.agg (encW no), .int .i64 0, .bool false]
theorem oneRes_ref (no : GWord) (o : Option (GWord × Nat)) : noRef (oneRes no o) = true := by
  rcases o with _ | ⟨w, n⟩ <;> rfl
theorem span_mem (p : UInt8 → Bool) (s : List UInt8) : ∀ c ∈ s.take (span p s), p c = true := by
  intro c hc
  have e : s.take (span p s) = s.takeWhile p := by
    unfold span
    exact (List.prefix_iff_eq_take.1 (List.takeWhile_prefix p)).symm
  rw [e] at hc
  exact List.all_eq_true.1 (List.all_takeWhile) c hc
theorem ms_shape {r : List UInt8} (h : pre r [109, 115] = true) : ∃ t, r = 109 :: 115 :: t := by
  obtain ⟨t, ht⟩ := List.isPrefixOf_iff_prefix.1 h
  exact ⟨t, ht.symm⟩
theorem ms_not {r : List UInt8} (h : pre r [109, 115] = false) : isMs r = false := by
  rcases r with _ | ⟨a, _ | ⟨b, t⟩⟩
  · rfl
  · rfl
  · unfold pre at h
    simp only [List.isPrefixOf, Bool.and_true, Bool.and_eq_false_iff] at h
    unfold isMs
    rcases h with h | h
    · have : a ≠ 109 := fun e => by subst e; simp at h
      simp [this]
    · have : b ≠ 115 := fun e => by subst e; simp at h
      simp [this]
def c20 : VC := ⟨⟨[], []⟩, [(15, [none]), (27, [none]), (14, [none]), (17, [none]), (19, [none])], [(0, [⟨[(34, .slx 0 0 0), (6, .slx 1 0 0), (0, .sym 64), (3, .sym 65), (5, .sym 72), (2, .ptr 0 0), (33, .sym 72)], [(0, [.int .i64 0, .str [], .int .i64 0, .flt .f64 0, .int .i64 0])], 1, 2, [], []⟩])]⟩
def m20 (q : Nat) : VT :=
     (.lt (.slc 9 false true) [.sym 64, .sym 65] q none
     (.call 27 [.sym q] (q + 1) [none]
     (.lt (.slc 9 true false) [.sym 64, .sym 65] (q + 2) none
     (.call 14 [.sym (q + 2), .str [109, 115]] (q + 3) [none]
     (.ite (q + 3)
      (.lt (.len 9) [.sym (q + 2)] (q + 4) none
      (.lt (.bin .eql 3 false true) [.sym (q + 4), .int .i64 2] (q + 5) none
      (.ite (q + 5)
       (.lt (.bin .add 3 false true) [.sym 65, .int .i64 2] (q + 6) none
       (.done (.tup [.agg [.int .i64 4, .str [], .sym (q + 1), .flt .f64 0, .int .i64 0], .sym (q + 6), .bool true])))
       (.lt (.idx 9) [.sym (q + 2), .int .i64 2] (q + 6) none
       (.call 17 [.sym (q + 6)] (q + 7) [none]
       (.lt (.un .not) [.sym (q + 7)] (q + 8) none
       (.ite (q + 8)
        (.lt (.idx 9) [.sym (q + 2), .int .i64 2] (q + 9) none
        (.call 19 [.sym (q + 9)] (q + 10) [none]
        (.lt (.un .not) [.sym (q + 10)] (q + 11) none
        (.ite (q + 11)
         (.lt (.bin .add 3 false true) [.sym 65, .int .i64 2] (q + 12) none
         (.done (.tup [.agg [.int .i64 4, .str [], .sym (q + 1), .flt .f64 0, .int .i64 0], .sym (q + 12), .bool true])))
         (.done (.tup [.agg [.int .i64 2, .str [], .sym (q + 1), .flt .f64 0, .int .i64 0], .sym 65, .bool true]))))))
        (.done (.tup [.agg [.int .i64 2, .str [], .sym (q + 1), .flt .f64 0, .int .i64 0], .sym 65, .bool true])))))))))
      (.done (.tup [.agg [.int .i64 2, .str [], .sym (q + 1), .flt .f64 0, .int .i64 0], .sym 65, .bool true])))))))
def t20 : VT :=
 (.call 15 [.sym 64, .fn 19 []] 65 [none]
 (.lt (.len 9) [.sym 64] 66 none
 (.lt (.bin .lss 3 false false) [.sym 65, .sym 66] 67 none
 (.ite 67
  (.lt (.idx 9) [.sym 64, .sym 65] 68 none
  (.lt (.bin .eql 5 false true) [.sym 68, .int .u8 46] 69 none
  (.ite 69
   (.lt (.bin .add 3 false true) [.sym 65, .int .i64 1] 70 none
   (.lt (.slc 9 true false) [.sym 64, .sym 70] 71 none
   (.call 15 [.sym 71, .fn 19 []] 72 [none]
   (.lt (.bin .add 3 false false) [.sym 65, .sym 72] 73 none
   (.lt (.bin .gtr 3 false true) [.sym 73, .int .i64 15] 74 none
   (.ite 74
    (.done (.tup [.agg [.int .i64 0, .str [], .int .i64 0, .flt .f64 0, .int .i64 0], .int .i64 0, .bool false]))
    (.lt (.bin .gtr 3 false true) [.sym 72, .int .i64 0] 75 none
    (.ite 75
     (.loop 76 0 [.int .i64 0, .flt .f64 4607182418800017408]
      (.cons 2
      (.lt (.bin .lss 3 false false) [.sym 76, .sym 72] 78 none
      (.ite 78
       (.lt (.bin .mul 31 false true) [.sym 77, .flt .f64 4621819117588971520] 79 none
       (.lt (.bin .add 3 false true) [.sym 76, .int .i64 1] 80 none
       (.again 0 0 [.sym 80, .sym 79])))
       (.lt (.slc 9 false true) [.sym 64, .sym 65] 79 none
       (.lt (.bin .add 3 false true) [.sym 65, .int .i64 1] 80 none
       (.lt (.bin .add 3 false true) [.sym 65, .int .i64 1] 81 none
       (.lt (.bin .add 3 false false) [.sym 81, .sym 72] 82 none
       (.lt (.slc 9 true true) [.sym 64, .sym 80, .sym 82] 83 none
       (.lt (.bin .add 9 false false) [.sym 79, .sym 83] 84 none
       (.call 27 [.sym 84] 85 [none]
       (.lt (.conv 2 31) [.sym 85] 86 none
       (.lt (.bin .quo 31 false false) [.sym 86, .sym 77] 87 none
       (.lt (.bin .add 3 false true) [.sym 65, .int .i64 1] 88 none
       (.lt (.bin .add 3 false false) [.sym 88, .sym 72] 89 none
       (.done (.tup [.agg [.int .i64 3, .str [], .int .i64 0, .sym 87, .int .i64 0], .sym 89, .bool true])))))))))))))))
      .nil))
     (m20 76)))))))))
   (.lt (.bin .add 3 false false) [.sym 65, .int .i64 0] 70 none
   (.lt (.bin .gtr 3 false true) [.sym 70, .int .i64 15] 71 none
   (.ite 71
    (.done (.tup [.agg [.int .i64 0, .str [], .int .i64 0, .flt .f64 0, .int .i64 0], .int .i64 0, .bool false]))
    (m20 72)))))))
  (.lt (.bin .add 3 false false) [.sym 65, .int .i64 0] 68 none
  (.lt (.bin .gtr 3 false true) [.sym 68, .int .i64 15] 69 none
  (.ite 69
   (.done (.tup [.agg [.int .i64 0, .str [], .int .i64 0, .flt .f64 0, .int .i64 0], .int .i64 0, .bool false]))
   (m20 70))))))))
theorem add0 {n : Nat} (h : n < 9223372036854775808) : IntKind.i64.wrap ((n : Int) + 0) = (n : Int) := by rw [wrap64 (by omega) (by omega)]; omega
theorem add2 {n : Nat} (h : n < 9223372036854775806) : IntKind.i64.wrap ((n : Int) + 2) = ((n + 2 : Nat) : Int) := by rw [wrap64 (by omega) (by omega)]; rfl
theorem p20 (s : List UInt8) (hs : s.length < 9223372036854775000) : Pure Try.prog 20 [.str s] (oneRes noW (numS s)) := by
  refine pure_shape (sh := [none]) (ls := [.str s]) (c := c20) (n := 300) (t := t20) mo ov rfl rfl (oneRes_ref _ _) (fun Y _ => known0 _) rfl (by kernel_rfl) fun Y hf hg => ?_
  unfold t20
  have hn : span isD s ≤ s.length := span_le _ _
  have hdig := span_mem isD s
  refine VOK_call (p15d s (by omega)) rfl rfl (VOK_lt (run_len_str str9 s) rfl (VOK_lt (run_lss ..) rfl (VOK_ite rfl (fun hlt => ?_) (fun hlt => ?_))))
  · have hlt : span isD s < s.length := by simp only [decide_eq_true_eq] at hlt; omega
    have hd := List.drop_eq_getElem_cons hlt
    refine VOK_lt (run_idx_str str9 s .i64 _ hlt) rfl (VOK_lt (at_eq hlt 46 46 rfl ..) rfl (VOK_ite rfl (fun hp => ?_) (fun hp => ?_)))
    · have hp := of_decide_eq_true hp
      have hb : behind (s.drop (span isD s)) = span isD (s.drop (span isD s + 1)) := by rw [hd, hp]; rfl
      have hbl := span_le isD (s.drop (span isD s + 1))
      rw [List.length_drop] at hbl
      have hbd := span_mem isD (s.drop (span isD s + 1))
      refine VOK_lt (run_add ..) rfl ?_
      rw [inc64 (by omega)]
      refine VOK_lt (run_slc10_str str9 s .i64 (span isD s + 1) hlt) rfl (VOK_call (p15d _ (by rw [List.length_drop]; omega)) rfl rfl (VOK_lt (run_add ..) rfl ?_))
      rw [add64 (by omega)]
      refine VOK_lt (run_gtr ..) rfl (VOK_ite rfl (fun h15 => VOK_done ?_) (fun h15 => VOK_lt (run_gtr ..) rfl (VOK_ite rfl (fun h0 => ?_) (fun h0 => ?_))))
      · have h15 : 15 < span isD s + span isD (s.drop (span isD s + 1)) := by simp only [decide_eq_true_eq] at h15; omega
        unfold numS
        rw [hb, if_pos h15]; rfl
      · have h15 : span isD s + span isD (s.drop (span isD s + 1)) ≤ 15 := by simp only [decide_eq_false_iff_not] at h15; omega
        have h0 : 0 < span isD (s.drop (span isD s + 1)) := by simp only [decide_eq_true_eq] at h0; omega
        have hres : numS s = some (realS s (span isD (s.drop (span isD s + 1)))) := by
          unfold numS
          rw [hb, if_neg (by omega), if_pos h0]
        generalize span isD (s.drop (span isD s + 1)) = b at *
        refine VOK_loop (ι := Nat) (fun k => [.int .i64 (k : Int), .flt .f64 (tensT k)]) (fun k => k ≤ b) (fun k => b - k) 0 (Nat.zero_le _) rfl (fun _ _ => rfl) (fun i j _ _ h => ?_) (fun k hk => ?_)
        · simp at h; have h : i = j := by omega
          rw [h]
        refine VOK_lt (run_lss ..) rfl (VOK_ite rfl (fun hlt => ?_) (fun hlt => ?_))
        · have hlt : k < b := by simp only [decide_eq_true_eq] at hlt; omega
          refine VOK_lt (run_tens 31 false true (by omega)) rfl (VOK_lt (run_add ..) rfl (VOK_again rfl ⟨k + 1, hlt, ?_, by omega⟩))
          exact congrArg (fun x => [AV.int .i64 x, _]) (inc64 (by omega))
        · have hkb : k = b := by simp only [decide_eq_false_iff_not] at hlt; omega
          subst hkb
          refine VOK_lt (run_slc01_str str9 s .i64 _ hn) rfl (VOK_lt (run_add ..) rfl ?_)
          rw [inc64 (by omega)]
          refine VOK_lt (run_add ..) rfl ?_
          rw [inc64 (by omega)]
          refine VOK_lt (run_add ..) rfl ?_
          rw [add64 (by omega)]
          refine VOK_lt (run_slc11_str str9 s .i64 .i64 (span isD s + 1) (span isD s + 1 + k) (by omega) (by omega)) rfl ?_
          rw [show span isD s + 1 + k - (span isD s + 1) = k by omega]
          refine VOK_lt (run_cat _ _ _ _ (by simp only [List.length_take, List.length_drop]; omega)) rfl (VOK_call (p27 _ (by simp only [List.length_append, List.length_take, List.length_drop]; omega) (fun c hc => ?_)) rfl rfl (VOK_lt (run_conv_if Try.underlying2 Try.underlying31 _) rfl
            (VOK_lt (run_quo 31 false false _ (by omega)) rfl (VOK_lt (run_add ..) rfl ?_))))
          · rcases List.mem_append.1 hc with hc | hc
            · exact hdig c hc
            · exact hbd c hc
          rw [inc64 (by omega)]
          refine VOK_lt (run_add ..) rfl (VOK_done ?_)
          rw [add64 (by omega)]
          rw [hres]; rfl
      · have h15 : span isD s + span isD (s.drop (span isD s + 1)) ≤ 15 := by simp only [decide_eq_false_iff_not] at h15; omega
        have h0 : ¬ 0 < span isD (s.drop (span isD s + 1)) := by simp only [decide_eq_false_iff_not] at h0; omega
        have hms : numS s = some (msS s) := by
          unfold numS
          rw [hb, if_neg (by omega), if_neg h0]
        have hl : (s.take (span isD s)).length ≤ 15 := by rw [List.length_take]; omega
        unfold m20
        refine VOK_lt (run_slc01_str str9 s .i64 _ hn) rfl (VOK_call (p27 _ hl hdig) rfl rfl (VOK_lt (run_slc10_str str9 s .i64 _ hn) rfl (VOK_call (p14 _ _) rfl rfl (VOK_ite rfl (fun hp => ?_) (fun hp => VOK_done ?_)))))
        · obtain ⟨t, ht⟩ := ms_shape hp
          have hlen : (s.drop (span isD s)).length = t.length + 2 := by rw [ht]; rfl
          refine VOK_lt (run_len_str str9 _) rfl (VOK_lt (run_eql ..) rfl (VOK_ite rfl (fun h2 => VOK_lt (run_add ..) rfl (VOK_done ?_)) (fun h2 => ?_)))
          · have h2 : t = [] := List.length_eq_zero_iff.1 (by simp only [decide_eq_true_eq] at h2; omega)
            have : isMs (s.drop (span isD s)) = true := by rw [ht, h2]; rfl
            rw [add2 (by omega), hms]; unfold msS; rw [if_pos this]; rfl
          · have h2 : t ≠ [] := fun e => by rw [e] at hlen; simp only [hlen] at h2; simp at h2
            obtain ⟨c, t', rfl⟩ := List.exists_cons_of_ne_nil h2
            have h3 : 2 < (s.drop (span isD s)).length := by rw [hlen]; simp
            have hx : (s.drop (span isD s))[2] = c := by rw [List.getElem_of_eq ht h3]; rfl
            have him : isMs (s.drop (span isD s)) = !isLD c := by rw [ht]; rfl
            refine VOK_lt (run_idx_str str9 _ .i64 2 h3) rfl ?_
            rw [hx]
            refine VOK_call (p17 c) rfl rfl (VOK_lt (run_not ..) rfl (VOK_ite rfl (fun hL => ?_) (fun hL => VOK_done ?_)))
            · refine VOK_lt (run_idx_str str9 _ .i64 2 h3) rfl ?_
              rw [hx]
              refine VOK_call (p19 c) rfl rfl (VOK_lt (run_not ..) rfl (VOK_ite rfl (fun hD => VOK_lt (run_add ..) rfl (VOK_done ?_)) (fun hD => VOK_done ?_)))
              · have : isMs (s.drop (span isD s)) = true := by
                  rw [him]; unfold isLD
                  rw [Bool.not_eq_true'] at hL hD
                  rw [hL, hD]; rfl
                rw [add2 (by omega), hms]; unfold msS; rw [if_pos this]; rfl
              · have : ¬ isMs (s.drop (span isD s)) = true := by
                  rw [him]; unfold isLD
                  rw [Bool.not_eq_false'] at hD
                  rw [hD]; simp
                rw [hms]; unfold msS; rw [if_neg this]; rfl
            · have : ¬ isMs (s.drop (span isD s)) = true := by
                rw [him]; unfold isLD
                rw [Bool.not_eq_false'] at hL
                rw [hL]; simp
              rw [hms]; unfold msS; rw [if_neg this]; rfl
        · rw [hms]; unfold msS; rw [if_neg (by rw [ms_not hp]; simp)]; rfl
    · have hp := of_decide_eq_false hp
      have hb : behind (s.drop (span isD s)) = 0 := by rw [hd]; simp only [behind, if_neg hp]
      refine VOK_lt (run_add ..) rfl ?_
      rw [add0 (by omega)]
      refine VOK_lt (run_gtr ..) rfl (VOK_ite rfl (fun h15 => VOK_done ?_) (fun h15 => ?_))
      · have h15 : 15 < span isD s := by simp only [decide_eq_true_eq] at h15; omega
        unfold numS
        rw [hb, if_pos (by omega)]; rfl
      · have h15 : span isD s ≤ 15 := by simp only [decide_eq_false_iff_not] at h15; omega
        have hms : numS s = some (msS s) := by
          unfold numS
          rw [hb, if_neg (by omega), if_neg (by omega)]
        have hl : (s.take (span isD s)).length ≤ 15 := by rw [List.length_take]; omega
        unfold m20
        refine VOK_lt (run_slc01_str str9 s .i64 _ hn) rfl (VOK_call (p27 _ hl hdig) rfl rfl (VOK_lt (run_slc10_str str9 s .i64 _ hn) rfl (VOK_call (p14 _ _) rfl rfl (VOK_ite rfl (fun hp => ?_) (fun hp => VOK_done ?_)))))
        · obtain ⟨t, ht⟩ := ms_shape hp
          have hlen : (s.drop (span isD s)).length = t.length + 2 := by rw [ht]; rfl
          refine VOK_lt (run_len_str str9 _) rfl (VOK_lt (run_eql ..) rfl (VOK_ite rfl (fun h2 => VOK_lt (run_add ..) rfl (VOK_done ?_)) (fun h2 => ?_)))
          · have h2 : t = [] := List.length_eq_zero_iff.1 (by simp only [decide_eq_true_eq] at h2; omega)
            have : isMs (s.drop (span isD s)) = true := by rw [ht, h2]; rfl
            rw [add2 (by omega), hms]; unfold msS; rw [if_pos this]; rfl
          · have h2 : t ≠ [] := fun e => by rw [e] at hlen; simp only [hlen] at h2; simp at h2
            obtain ⟨c, t', rfl⟩ := List.exists_cons_of_ne_nil h2
            have h3 : 2 < (s.drop (span isD s)).length := by rw [hlen]; simp
            have hx : (s.drop (span isD s))[2] = c := by rw [List.getElem_of_eq ht h3]; rfl
            have him : isMs (s.drop (span isD s)) = !isLD c := by rw [ht]; rfl
            refine VOK_lt (run_idx_str str9 _ .i64 2 h3) rfl ?_
            rw [hx]
            refine VOK_call (p17 c) rfl rfl (VOK_lt (run_not ..) rfl (VOK_ite rfl (fun hL => ?_) (fun hL => VOK_done ?_)))
            · refine VOK_lt (run_idx_str str9 _ .i64 2 h3) rfl ?_
              rw [hx]
              refine VOK_call (p19 c) rfl rfl (VOK_lt (run_not ..) rfl (VOK_ite rfl (fun hD => VOK_lt (run_add ..) rfl (VOK_done ?_)) (fun hD => VOK_done ?_)))
              · have : isMs (s.drop (span isD s)) = true := by
                  rw [him]; unfold isLD
                  rw [Bool.not_eq_true'] at hL hD
                  rw [hL, hD]; rfl
                rw [add2 (by omega), hms]; unfold msS; rw [if_pos this]; rfl
              · have : ¬ isMs (s.drop (span isD s)) = true := by
                  rw [him]; unfold isLD
                  rw [Bool.not_eq_false'] at hD
                  rw [hD]; simp
                rw [hms]; unfold msS; rw [if_neg this]; rfl
            · have : ¬ isMs (s.drop (span isD s)) = true := by
                rw [him]; unfold isLD
                rw [Bool.not_eq_false'] at hL
                rw [hL]; simp
              rw [hms]; unfold msS; rw [if_neg this]; rfl
        · rw [hms]; unfold msS; rw [if_neg (by rw [ms_not hp]; simp)]; rfl
  · have hlt : ¬ span isD s < s.length := by simp only [decide_eq_false_iff_not] at hlt; omega
    have hb : behind (s.drop (span isD s)) = 0 := by rw [List.drop_eq_nil_of_le (by omega)]; rfl
    refine VOK_lt (run_add ..) rfl ?_
    rw [add0 (by omega)]
    refine VOK_lt (run_gtr ..) rfl (VOK_ite rfl (fun h15 => VOK_done ?_) (fun h15 => ?_))
    · have h15 : 15 < span isD s := by simp only [decide_eq_true_eq] at h15; omega
      unfold numS
      rw [hb, if_pos (by omega)]; rfl
    · have h15 : span isD s ≤ 15 := by simp only [decide_eq_false_iff_not] at h15; omega
      have hms : numS s = some (msS s) := by
        unfold numS
        rw [hb, if_neg (by omega), if_neg (by omega)]
      have hl : (s.take (span isD s)).length ≤ 15 := by rw [List.length_take]; omega
      unfold m20
      refine VOK_lt (run_slc01_str str9 s .i64 _ hn) rfl (VOK_call (p27 _ hl hdig) rfl rfl (VOK_lt (run_slc10_str str9 s .i64 _ hn) rfl (VOK_call (p14 _ _) rfl rfl (VOK_ite rfl (fun hp => ?_) (fun hp => VOK_done ?_)))))
      · obtain ⟨t, ht⟩ := ms_shape hp
        have hlen : (s.drop (span isD s)).length = t.length + 2 := by rw [ht]; rfl
        refine VOK_lt (run_len_str str9 _) rfl (VOK_lt (run_eql ..) rfl (VOK_ite rfl (fun h2 => VOK_lt (run_add ..) rfl (VOK_done ?_)) (fun h2 => ?_)))
        · have h2 : t = [] := List.length_eq_zero_iff.1 (by simp only [decide_eq_true_eq] at h2; omega)
          have : isMs (s.drop (span isD s)) = true := by rw [ht, h2]; rfl
          rw [add2 (by omega), hms]; unfold msS; rw [if_pos this]; rfl
        · have h2 : t ≠ [] := fun e => by rw [e] at hlen; simp only [hlen] at h2; simp at h2
          obtain ⟨c, t', rfl⟩ := List.exists_cons_of_ne_nil h2
          have h3 : 2 < (s.drop (span isD s)).length := by rw [hlen]; simp
          have hx : (s.drop (span isD s))[2] = c := by rw [List.getElem_of_eq ht h3]; rfl
          have him : isMs (s.drop (span isD s)) = !isLD c := by rw [ht]; rfl
          refine VOK_lt (run_idx_str str9 _ .i64 2 h3) rfl ?_
          rw [hx]
          refine VOK_call (p17 c) rfl rfl (VOK_lt (run_not ..) rfl (VOK_ite rfl (fun hL => ?_) (fun hL => VOK_done ?_)))
          · refine VOK_lt (run_idx_str str9 _ .i64 2 h3) rfl ?_
            rw [hx]
            refine VOK_call (p19 c) rfl rfl (VOK_lt (run_not ..) rfl (VOK_ite rfl (fun hD => VOK_lt (run_add ..) rfl (VOK_done ?_)) (fun hD => VOK_done ?_)))
            · have : isMs (s.drop (span isD s)) = true := by
                rw [him]; unfold isLD
                rw [Bool.not_eq_true'] at hL hD
                rw [hL, hD]; rfl
              rw [add2 (by omega), hms]; unfold msS; rw [if_pos this]; rfl
            · have : ¬ isMs (s.drop (span isD s)) = true := by
                rw [him]; unfold isLD
                rw [Bool.not_eq_false'] at hD
                rw [hD]; simp
              rw [hms]; unfold msS; rw [if_neg this]; rfl
          · have : ¬ isMs (s.drop (span isD s)) = true := by
              rw [him]; unfold isLD
              rw [Bool.not_eq_false'] at hL
              rw [hL]; simp
            rw [hms]; unfold msS; rw [if_neg this]; rfl
      · rw [hms]; unfold msS; rw [if_neg (by rw [ms_not hp]; simp)]; rfl
end Go.Proofs.Ytmhcemkembijeaa.vars
/-
  Marks; the word that a text begins with.
-/
set_option maxRecDepth 100000
set_option linter.unusedVariables false
set_option linter.unusedSimpArgs false
namespace Go.Proofs.Ytmhcemkembijeaa.vars
open Go Go.Sx
def marksT : List UInt8 := [59, 58, 44, 40, 41, 91, 93, 43, 45, 42, 47, 61, 60, 62, 46]
def pairsT : List UInt8 := [58, 61, 32, 60, 62, 32, 60, 61, 32, 62, 61]
def isMark (c : UInt8) : Bool := marksT.contains c
def isPair (a b : UInt8) : Bool := (decide (a = 58 ∧ b = 61) || decide (a = 60 ∧ b = 62)) || (decide (a = 60 ∧ b = 61) || decide (a = 62 ∧ b = 61))
/-- the mark that a text begins with -/
def markS : List UInt8 → List UInt8
  | a :: b :: _ => if isPair a b then [a, b] else if isMark a then [a] else []
  | [a] => if isMark a then [a] else []
  | [] => []
theorem index_mark : ∀ (l : List UInt8) (c : UInt8), decide (0 ≤ Lib.indexByte l c) = l.contains c
  | [], c => rfl
  | b :: l, c => by
    have ih := index_mark l c
    have hge := Lib.indexByte_ge l c
    rw [List.contains_cons]
    unfold Lib.indexByte
    by_cases h : b = c
    · subst h; simp
    · have h1 : (b == c) = false := by simpa using h
      have h2 : (c == b) = false := by simpa using fun e : c = b => h e.symm
      rw [h1, h2, ← ih]
      simp only [Bool.false_eq_true, reduceIte, Bool.false_or]
      by_cases e : Lib.indexByte l c = -1
      · rw [e]; simp
      · have e1 : (Lib.indexByte l c == -1) = false := by simpa using e
        rw [e1]
        simp only [Bool.false_eq_true, reduceIte]
        rw [Bool.eq_iff_iff, decide_eq_true_eq, decide_eq_true_eq]
        omega
theorem index_step (x : UInt8) (l : List UInt8) (sub : List UInt8) : decide (0 ≤ Lib.index (x :: l) sub) = (sub.isPrefixOf (x :: l) || decide (0 ≤ Lib.index l sub)) := by
  have hge := Lib.index_ge l sub
  conv => lhs; unfold Lib.index
  cases h : sub.isPrefixOf (x :: l) with
  | true => simp
  | false =>
    simp only [Bool.false_eq_true, reduceIte, Bool.false_or]
    by_cases e : Lib.index l sub = -1
    · rw [e]; simp
    · have e1 : (Lib.index l sub == -1) = false := by simpa using e
      rw [e1]
      simp only [Bool.false_eq_true, reduceIte]
      rw [Bool.eq_iff_iff, decide_eq_true_eq, decide_eq_true_eq]
      omega
theorem contains_pair (a b : UInt8) (ha : a ≠ 32) (hb : b ≠ 32) : Lib.contains pairsT [a, b] = isPair a b := by
  unfold Lib.contains pairsT
  simp only [index_step]
  have e0 : decide (0 ≤ Lib.index [] [a, b]) = false := by simp [Lib.index]
  rw [e0]
  simp only [List.isPrefixOf, Bool.and_true, Bool.and_false, Bool.or_false, Bool.false_or]
  have ha' : (a == 32) = false := by simpa using ha
  have hb' : (b == 32) = false := by simpa using hb
  simp only [ha', hb', Bool.and_false, Bool.false_and, Bool.or_false, Bool.false_or]
  unfold isPair
  rw [Bool.eq_iff_iff]
  simp only [Bool.or_eq_true, Bool.and_eq_true, beq_iff_eq, decide_eq_true_eq]
  constructor
  · rintro (h | h | h | h) <;> simp [h]
  · rintro ((h | h) | (h | h)) <;> simp [h]
theorem pair_blank {a b : UInt8} (h : a = 32 ∨ b = 32) : isPair a b = false := by
  rcases h with rfl | rfl
  · simp [isPair]
  · simp [isPair]
def c21 : VC := ⟨⟨[], []⟩, [(28, [none]), (29, [none])], []⟩
def m21 (q : Nat) : VT :=
     (.lt (.idx 9) [.sym 64, .int .i64 0] q none
     (.call 29 [.str marksT, .sym q] (q + 1) [none]
     (.lt (.bin .geq 3 false true) [.sym (q + 1), .int .i64 0] (q + 2) none
     (.ite (q + 2)
      (.lt (.slc 9 false true) [.sym 64, .int .i64 1] (q + 3) none
      (.done (.sym (q + 3))))
      (.done (.str []))))))
def t21 : VT :=
 (.lt (.len 9) [.sym 64] 65 none
 (.lt (.bin .gtr 3 false true) [.sym 65, .int .i64 1] 66 none
 (.ite 66
  (.lt (.idx 9) [.sym 64, .int .i64 1] 67 none
  (.lt (.bin .neq 5 false true) [.sym 67, .int .u8 32] 68 none
  (.ite 68
   (.lt (.idx 9) [.sym 64, .int .i64 0] 69 none
   (.lt (.bin .neq 5 false true) [.sym 69, .int .u8 32] 70 none
   (.ite 70
    (.lt (.slc 9 false true) [.sym 64, .int .i64 2] 71 none
    (.call 28 [.str pairsT, .sym 71] 72 [none]
    (.ite 72
     (.lt (.slc 9 false true) [.sym 64, .int .i64 2] 73 none
     (.done (.sym 73)))
     (m21 73))))
    (m21 71))))
   (m21 69))))
  (m21 67))))
theorem at_ne {s : List UInt8} {n : Nat} (h : n < s.length) (d : UInt8) (k : Int) (hk : (d.toNat : Int) = k) (t : TypeId) (cx cy : Bool) : (XOp.bin .neq t cx cy).run Try.prog [.int .u8 (s[n].toNat : Int), .int .u8 k] = some (.bool (!decide (s[n] = d))) := by
  rw [run_neq, ← hk, int_u8]
theorem mark_one (a : UInt8) (r : List UInt8) (h : ∀ b t, r = b :: t → isPair a b = false) : markS (a :: r) = if isMark a then [a] else [] := by
  cases r with
  | nil => rfl
  | cons b t => simp only [markS, h b t rfl, Bool.false_eq_true, reduceIte]
theorem p21 (a : UInt8) (r : List UInt8) (hs : (a :: r).length < 4294967281) : Pure Try.prog 21 [.str (a :: r)] (.str (markS (a :: r))) := by
  refine pure_shape (sh := [none]) (ls := [.str (a :: r)]) (c := c21) (n := 300) (t := t21) mo ov rfl rfl rfl (fun Y _ => known0 _) rfl (by kernel_rfl) fun Y hf hg => ?_
  unfold t21
  have h0 : 0 < (a :: r).length := by simp
  have h1 : 1 ≤ (a :: r).length := by simp
  have hmk : decide (0 ≤ Lib.indexByte marksT a) = isMark a := index_mark marksT a
  refine VOK_lt (run_len_str str9 _) rfl (VOK_lt (run_gtr ..) rfl (VOK_ite rfl (fun hlt => ?_) (fun hlt => ?_)))
  · obtain ⟨b, t, rfl⟩ : ∃ b t, r = b :: t := by
      cases r with
      | nil => simp at hlt
      | cons b t => exact ⟨b, t, rfl⟩
    have h2 : 2 ≤ (a :: b :: t).length := by simp
    refine VOK_lt (run_idx_str str9 (a :: b :: t) .i64 1 (by simp)) rfl (VOK_lt (at_ne (n := 1) (by simp) 32 32 rfl ..) rfl (VOK_ite rfl (fun hb => ?_) (fun hb => ?_)))
    · have hb : b ≠ 32 := by simpa using hb
      refine VOK_lt (run_idx_str str9 (a :: b :: t) .i64 0 h0) rfl (VOK_lt (at_ne (n := 0) h0 32 32 rfl ..) rfl (VOK_ite rfl (fun ha => ?_) (fun ha => ?_)))
      · have ha : a ≠ 32 := by simpa using ha
        refine VOK_lt (run_slc01_str str9 (a :: b :: t) .i64 2 h2) rfl (VOK_call (p28 pairsT [a, b] (by decide)) rfl rfl ?_)
        rw [contains_pair a b ha hb]
        refine VOK_ite rfl (fun hp => VOK_lt (run_slc01_str str9 (a :: b :: t) .i64 2 h2) rfl (VOK_done ?_)) (fun hp => ?_)
        · show AV.str _ = _
          simp only [markS, hp, reduceIte]; rfl
        · have hm := mark_one a (b :: t) (fun b' t' e => by cases e; exact hp)
          unfold m21
          refine VOK_lt (run_idx_str str9 (a :: _) .i64 0 h0) rfl (VOK_call (p29 marksT a) rfl rfl (VOK_lt (run_geq ..) rfl ?_))
          rw [hmk]
          refine VOK_ite rfl (fun hi => VOK_lt (run_slc01_str str9 (a :: _) .i64 1 h1) rfl (VOK_done ?_)) (fun hi => VOK_done ?_)
          · show AV.str _ = _
            rw [hm, hi]; rfl
          · show AV.str _ = _
            rw [hm, hi]; rfl
      · have ha : a = 32 := by simpa using ha
        have hm := mark_one a (b :: t) (fun b' t' e => by cases e; exact pair_blank (.inl ha))
        unfold m21
        refine VOK_lt (run_idx_str str9 (a :: _) .i64 0 h0) rfl (VOK_call (p29 marksT a) rfl rfl (VOK_lt (run_geq ..) rfl ?_))
        rw [hmk]
        refine VOK_ite rfl (fun hi => VOK_lt (run_slc01_str str9 (a :: _) .i64 1 h1) rfl (VOK_done ?_)) (fun hi => VOK_done ?_)
        · show AV.str _ = _
          rw [hm, hi]; rfl
        · show AV.str _ = _
          rw [hm, hi]; rfl
    · have hb : b = 32 := by simpa using hb
      have hm := mark_one a (b :: t) (fun b' t' e => by cases e; exact pair_blank (.inr hb))
      unfold m21
      refine VOK_lt (run_idx_str str9 (a :: _) .i64 0 h0) rfl (VOK_call (p29 marksT a) rfl rfl (VOK_lt (run_geq ..) rfl ?_))
      rw [hmk]
      refine VOK_ite rfl (fun hi => VOK_lt (run_slc01_str str9 (a :: _) .i64 1 h1) rfl (VOK_done ?_)) (fun hi => VOK_done ?_)
      · show AV.str _ = _
        rw [hm, hi]; rfl
      · show AV.str _ = _
        rw [hm, hi]; rfl
  · obtain rfl : r = [] := by
      cases r with
      | nil => rfl
      | cons b t => simp at hlt; omega
    have hm := mark_one a [] (fun b' t' e => by cases e)
    unfold m21
    refine VOK_lt (run_idx_str str9 (a :: _) .i64 0 h0) rfl (VOK_call (p29 marksT a) rfl rfl (VOK_lt (run_geq ..) rfl ?_))
    rw [hmk]
    refine VOK_ite rfl (fun hi => VOK_lt (run_slc01_str str9 (a :: _) .i64 1 h1) rfl (VOK_done ?_)) (fun hi => VOK_done ?_)
    · show AV.str _ = _
      rw [hm, hi]; rfl
    · show AV.str _ = _
      rw [hm, hi]; rfl
/-- the word that a text begins with -/
def oneS (s : List UInt8) : Option (GWord × Nat) := match s with
  | [] => none
  | c :: _ => if isL c then some (⟨1, s.take (span isLD s), 0, 0, 0⟩, span isLD s) else if isD c then numS s
    else if markS s = [] then none else some (⟨5, markS s, 0, 0, 0⟩, (markS s).length)
def noOne (s : List UInt8) : GWord := match s with
  | [] => noW
  | c :: _ => if isD c then noW else ⟨5, [], 0, 0, 0⟩
def c11 : VC := ⟨⟨[], []⟩, [(15, [none]), (17, [none]), (19, [none]), (20, [(some 5), none, none]), (21, [none])], []⟩
def t11 : VT :=
 (.lt (.idx 9) [.sym 64, .int .i64 0] 65 none
 (.call 17 [.sym 65] 66 [none]
 (.ite 66
  (.call 15 [.sym 64, .fn 18 []] 67 [none]
  (.lt (.slc 9 false true) [.sym 64, .sym 67] 68 none
  (.done (.tup [.agg [.int .i64 1, .sym 68, .int .i64 0, .flt .f64 0, .int .i64 0], .sym 67, .bool true]))))
  (.lt (.idx 9) [.sym 64, .int .i64 0] 67 none
  (.call 19 [.sym 67] 68 [none]
  (.ite 68
   (.call 20 [.sym 64] 69 [(some 5), none, none]
   (.done (.tup [.agg [.sym 69, .sym 70, .sym 71, .sym 72, .sym 73], .sym 74, .sym 75])))
   (.call 21 [.sym 64] 69 [none]
   (.lt (.len 9) [.sym 69] 70 none
   (.lt (.bin .neq 9 false true) [.sym 69, .str []] 71 none
   (.done (.tup [.agg [.int .i64 5, .sym 69, .int .i64 0, .flt .f64 0, .int .i64 0], .sym 70, .sym 71])))))))))))
theorem p11 (a : UInt8) (r : List UInt8) (hs : (a :: r).length < 4294967281) : Pure Try.prog 11 [.str (a :: r)] (oneRes (noOne (a :: r)) (oneS (a :: r))) := by
  refine pure_shape (sh := [none]) (ls := [.str (a :: r)]) (c := c11) (n := 300) (t := t11) mo ov rfl rfl (oneRes_ref _ _) (fun Y _ => known0 _) rfl (by kernel_rfl) fun Y hf hg => ?_
  unfold t11
  have h0 : 0 < (a :: r).length := by simp
  refine VOK_lt (run_idx_str str9 (a :: r) .i64 0 h0) rfl (VOK_call (p17 a) rfl rfl (VOK_ite rfl (fun hL => ?_) (fun hL => ?_)))
  · refine VOK_call (p15ld _ (by omega)) rfl rfl (VOK_lt (run_slc01_str str9 _ .i64 _ (span_le _ _)) rfl (VOK_done ?_))
    unfold oneS
    simp only [hL, reduceIte]; rfl
  · refine VOK_lt (run_idx_str str9 (a :: r) .i64 0 h0) rfl (VOK_call (p19 a) rfl rfl (VOK_ite rfl (fun hD => ?_) (fun hD => ?_)))
    · have e : oneS (a :: r) = numS (a :: r) := by unfold oneS; simp only [hL, hD, Bool.false_eq_true, reduceIte]
      have e2 : noOne (a :: r) = noW := by unfold noOne; simp only [hD, reduceIte]
      have h20 := p20 (a :: r) (by omega)
      rw [e, e2]
      rcases h : numS (a :: r) with _ | ⟨w, n⟩
      · rw [h] at h20
        exact VOK_call h20 rfl rfl (VOK_done rfl)
      · rw [h] at h20
        exact VOK_call h20 rfl rfl (VOK_done rfl)
    · refine VOK_call (p21 a r hs) rfl rfl (VOK_lt (run_len_str str9 _) rfl (VOK_lt (run_nes ..) rfl (VOK_done ?_)))
      have e2 : noOne (a :: r) = ⟨5, [], 0, 0, 0⟩ := by unfold noOne; simp only [hD, Bool.false_eq_true, reduceIte]
      rw [e2]
      unfold oneS
      simp only [hL, hD, Bool.false_eq_true, reduceIte]
      by_cases hm : markS (a :: r) = []
      · rw [if_pos hm]
        show AV.tup [.agg [_, .str (markS (a :: r)), _, _, _], .int .i64 ((markS (a :: r)).length : Int), .bool (!decide (markS (a :: r) = []))] = _
        rw [hm]; rfl
      · rw [if_neg hm]
        show AV.tup [.agg [_, .str (markS (a :: r)), _, _, _], .int .i64 ((markS (a :: r)).length : Int), .bool (!decide (markS (a :: r) = []))] = _
        rw [decide_eq_false hm]; rfl
end Go.Proofs.Ytmhcemkembijeaa.vars
