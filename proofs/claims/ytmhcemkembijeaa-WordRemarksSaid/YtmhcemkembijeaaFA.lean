/-
  A symbol as a number, a number as a value: short names for trees.
-/
import Derived.Test.YtmhcemkembijeaaSyQ
import Derived.Shelf.Small.Strs
import Derived.Shelf.Strings.Search3
import Derived.Test.YtmhcemkembijeaaProg
import Derived.Test.YtmhcemkembijeaaRows
import Derived.KernelRfl
import Derived.Lib.IndexMore
import Derived.Test.YtmhcemkembijeaaSyV
namespace Go.Proofs.Ytmhcemkembijeaa.vars
open Go Go.Sx
instance symN (n : Nat) : OfNat AV n := ⟨.sym n⟩
abbrev J (n : Int) : AV := .int .i64 n
end Go.Proofs.Ytmhcemkembijeaa.vars
namespace Go.Proofs
open Go.Shelf
def Try.wlays137_ren : Go.Shelf.Ren := ⟨fun | 137 => 29 | 217 => 32 | 266 => 34 | n => n, fun | 9 => 9 | 5 => 5 | 3 => 3 | n => n, fun | n => n⟩
theorem Try.wlays137 : Go.Proofs.Lays.n137 Try.prog Try.wlays137_ren := {
 mixed := by kernel_rfl
 f137 := Try.func29.trans (congrArg some (by kernel_rfl))
 f217 := Try.func32.trans (congrArg some (by kernel_rfl))
 f266 := Try.func34.trans (congrArg some (by kernel_rfl))
 t3 := Try.underlying3
 a3 := Try.isAgg3
 z3 := Try.sizeOf3
 v3 := Try.zeroValue3
 t5 := Try.underlying5
 a5 := Try.isAgg5
 z5 := Try.sizeOf5
 v5 := Try.zeroValue5
 t9 := Try.underlying9
 a9 := Try.isAgg9
 z9 := Try.sizeOf9
 v9 := Try.zeroValue9 }
open Go.RowKit in
theorem Try.strings_IndexByte (s : ByteArray) (c : Int) (w : World) :
 Calls Try.prog 29 #[.string s, .int .u8 c] w fun e w' => e = .returned (.int .i64 (Lib.indexByte s.data.toList c.toNat.toUInt8)) ∧ w' = w := Any.strings_IndexByte Try.wlays137 s c w
def Try.wlays144_ren : Go.Shelf.Ren := ⟨fun | 144 => 28 | 143 => 31 | 219 => 33 | 217 => 32 | 225 => 35 | 224 => 36 | 267 => 37 | 266 => 34 | 314 => 38 | n => n, fun | 9 => 9 | 4 => 4 | 3 => 3 | 5 => 5 | 46 => 52 | 146 => 54 | 51 => 53 | n => n, fun | 1 => 1 | n => n⟩
theorem Try.wlays144 : Go.Proofs.Lays.n144 Try.prog Try.wlays144_ren := {
 mixed := by kernel_rfl
 f143 := Try.func31.trans (congrArg some (by kernel_rfl))
 f144 := Try.func28.trans (congrArg some (by kernel_rfl))
 f217 := Try.func32.trans (congrArg some (by kernel_rfl))
 f219 := Try.func33.trans (congrArg some (by kernel_rfl))
 f224 := Try.func36.trans (congrArg some (by kernel_rfl))
 f225 := Try.func35.trans (congrArg some (by kernel_rfl))
 f266 := Try.func34.trans (congrArg some (by kernel_rfl))
 f267 := Try.func37.trans (congrArg some (by kernel_rfl))
 f314 := Try.func38.trans (congrArg some (by kernel_rfl))
 t3 := Try.underlying3
 a3 := Try.isAgg3
 z3 := Try.sizeOf3
 v3 := Try.zeroValue3
 t4 := Try.underlying4
 a4 := Try.isAgg4
 z4 := Try.sizeOf4
 v4 := Try.zeroValue4
 t5 := Try.underlying5
 a5 := Try.isAgg5
 z5 := Try.sizeOf5
 v5 := Try.zeroValue5
 t9 := Try.underlying9
 a9 := Try.isAgg9
 z9 := Try.sizeOf9
 v9 := Try.zeroValue9
 t46 := Try.underlying52
 a46 := Try.isAgg52
 z46 := Try.sizeOf52
 v46 := Try.zeroValue52
 t51 := Try.underlying53
 a51 := Try.isAgg53
 z51 := Try.sizeOf53
 v51 := Try.zeroValue53
 t146 := Try.underlying54
 a146 := Try.isAgg54
 z146 := Try.sizeOf54
 v146 := Try.zeroValue54
 g1 := by kernel_rfl }
open Go.RowKit Go.Lib in
theorem Try.strings_Contains (s sub : ByteArray) (m : Int) (w : World) (hs : s.size < 4294967281) (hm : w.cell? ⟨1, 0, none⟩ = some (.int .i64 m)) :
 Calls Try.prog 28 #[.string s, .string sub] w fun e w' => e = .returned (.bool (Lib.contains s.data.toList sub.data.toList)) ∧ w' = w := Any.strings_Contains Try.wlays144 s sub m w hs hm
end Go.Proofs
set_option maxRecDepth 100000
set_option linter.unusedVariables false
set_option linter.unusedSimpArgs false
namespace Go.Proofs.Ytmhcemkembijeaa.vars
open Go Go.Sx
instance gI : Gl := glTI 1 []
theorem mo : Try.prog.follows .mixedOrders = true := by kernel_rfl
theorem ov : OvOk Try.prog := ov_nilI 1 Try.prog
theorem str9 : Try.prog.underlying 9 = some .string := Try.underlying9
def isL (c : UInt8) : Bool := decide (97 ≤ (c.toNat : Int)) && decide ((c.toNat : Int) ≤ 122)
def isD (c : UInt8) : Bool := decide (48 ≤ (c.toNat : Int)) && decide ((c.toNat : Int) ≤ 57)
def isLD (c : UInt8) : Bool := isL c || isD c
def notNl (c : UInt8) : Bool := !decide ((c.toNat : Int) = 10)
theorem isD_iff (c : UInt8) : isD c = true ↔ 48 ≤ c.toNat ∧ c.toNat ≤ 57 := by
 unfold isD; simp only [Bool.and_eq_true, decide_eq_true_eq]; omega
def tL : VT :=
 (.lt (.bin .geq 5 false true) [64, .int .u8 97] 65 none
 (.ite 65
 (.lt (.bin .leq 5 false true) [64, .int .u8 122] 66 none
 (.done (66)))
 (.done (.bool false))))
def tD : VT :=
 (.lt (.bin .geq 5 false true) [64, .int .u8 48] 65 none
 (.ite 65
 (.lt (.bin .leq 5 false true) [64, .int .u8 57] 66 none
 (.done (66)))
 (.done (.bool false))))
def cE : VC := ⟨⟨[], []⟩, [], [], 0, false, []⟩
theorem pL {f : FuncId} (c : UInt8) (ht : vFn Try.prog 300 cE f (shapes 64 [none]) 65 = tL) : Pure Try.prog f [.int .u8 (c.toNat : Int)] (.bool (isL c)) := by
 refine pure_shape (sh := [none]) (ls := [.int .u8 (c.toNat : Int)]) (c := cE) (n := 300) (t := tL) mo ov rfl rfl rfl (fun Y _ => known0 _) rfl ht fun Y hf hg => ?_
 unfold tL
 refine VOK_lt (run_geq ..) rfl (VOK_ite rfl (fun h => VOK_lt (run_leq ..) rfl (VOK_done ?_)) (fun h => VOK_done ?_))
 ·show AV.bool _ = _
  unfold isL; rw [h]; rfl
 ·show AV.bool _ = _
  unfold isL; rw [h]; rfl
theorem pD {f : FuncId} (c : UInt8) (ht : vFn Try.prog 300 cE f (shapes 64 [none]) 65 = tD) : Pure Try.prog f [.int .u8 (c.toNat : Int)] (.bool (isD c)) := by
 refine pure_shape (sh := [none]) (ls := [.int .u8 (c.toNat : Int)]) (c := cE) (n := 300) (t := tD) mo ov rfl rfl rfl (fun Y _ => known0 _) rfl ht fun Y hf hg => ?_
 unfold tD
 refine VOK_lt (run_geq ..) rfl (VOK_ite rfl (fun h => VOK_lt (run_leq ..) rfl (VOK_done ?_)) (fun h => VOK_done ?_))
 ·show AV.bool _ = _
  unfold isD; rw [h]; rfl
 ·show AV.bool _ = _
  unfold isD; rw [h]; rfl
theorem p17 (c : UInt8) : Pure Try.prog 17 [.int .u8 (c.toNat : Int)] (.bool (isL c)) := pL c (by kernel_rfl)
theorem p19 (c : UInt8) : Pure Try.prog 19 [.int .u8 (c.toNat : Int)] (.bool (isD c)) := pD c (by kernel_rfl)
theorem p22 (c : UInt8) : Pure Try.prog 22 [.int .u8 (c.toNat : Int)] (.bool (isL c)) := pL c (by kernel_rfl)
theorem p23 (c : UInt8) : Pure Try.prog 23 [.int .u8 (c.toNat : Int)] (.bool (isD c)) := pD c (by kernel_rfl)
def t16 : VT :=
 (.lt (.bin .neq 5 false true) [64, .int .u8 10] 65 none
 (.done (65)))
theorem p16 (c : UInt8) : Pure Try.prog 16 [.int .u8 (c.toNat : Int)] (.bool (notNl c)) := by
 refine pure_shape (sh := [none]) (ls := [.int .u8 (c.toNat : Int)]) (c := cE) (n := 300) (t := t16) mo ov rfl rfl rfl (fun Y _ => known0 _) rfl (by kernel_rfl) fun Y hf hg => ?_
 unfold t16
 exact VOK_lt (run_neq ..) rfl (VOK_done rfl)
def c18 : VC := ⟨⟨[], []⟩, [(17, [none]), (19, [none])], [], 0, false, []⟩
def t18 : VT :=
 (.call 17 [64] 65 [none]
 (.ite 65
 (.done (.bool true))
 (.call 19 [64] 66 [none]
 (.done (66)))))
theorem p18 (c : UInt8) : Pure Try.prog 18 [.int .u8 (c.toNat : Int)] (.bool (isLD c)) := by
 refine pure_shape (sh := [none]) (ls := [.int .u8 (c.toNat : Int)]) (c := c18) (n := 300) (t := t18) mo ov rfl rfl rfl (fun Y _ => known0 _) rfl (by kernel_rfl) fun Y hf hg => ?_
 unfold t18
 refine VOK_call (p17 c) rfl rfl (VOK_ite rfl (fun h => VOK_done ?_) (fun h => VOK_call (p19 c) rfl rfl (VOK_done ?_)))
 ·show AV.bool _ = _
  unfold isLD; rw [h]; rfl
 ·show AV.bool _ = _
  unfold isLD; rw [h]; rfl
def span (p : UInt8 → Bool) (s : List UInt8) : Nat := (s.takeWhile p).length
theorem span_le (p : UInt8 → Bool) (s : List UInt8) : span p s ≤ s.length := (List.takeWhile_sublist p).length_le
theorem span_at (p : UInt8 → Bool) (s : List UInt8) (n : Nat) (h : n < s.length) : span p (s.drop n) = if p s[n] then span p (s.drop (n + 1)) + 1 else 0 := by
 rw [List.drop_eq_getElem_cons h]
 unfold span
 rw [List.takeWhile_cons]
 split <;> rfl
def c15 (g : Nat) : VC := ⟨⟨[], []⟩, [(g, [none])], [(0, [⟨[(4, .slx 0 0 0), (0, .sym 64), (1, .fn g [])], [], 0, 1, [], [], []⟩])], 0, false, []⟩
def t15 (g : Nat) : VT :=
 (.loop 65 0 [.int .i64 0]
  (.cons 1
  (.lt (.len 9) [.sym 64] 66 none
  (.lt (.bin .lss 3 false false) [.sym 65, .sym 66] 67 none
  (.ite 67
   (.lt (.idx 9) [.sym 64, .sym 65] 68 none
   (.call g [.sym 68] 69 [none]
   (.ite 69
    (.lt (.bin .add 3 false true) [.sym 65, .int .i64 1] 70 none
    (.again 0 0 [.sym 70]))
    (.done (.sym 65)))))
   (.done (.sym 65)))))
  .nil))
theorem inc64 {n : Nat} (h : n < 9223372036854775807) : IntKind.i64.wrap ((n : Int) + 1) = ((n + 1 : Nat) : Int) := by rw [wrap64 (by omega) (by omega)]; rfl
theorem add64 {n m : Nat} (h : n + m < 9223372036854775808) : IntKind.i64.wrap ((n : Int) + m) = ((n + m : Nat) : Int) := by rw [wrap64 (by omega) (by omega)]; rfl
theorem p15g (g : Nat) (p : UInt8 → Bool) (hg : ∀ c : UInt8, Pure Try.prog g [.int .u8 (c.toNat : Int)] (.bool (p c))) (s : List UInt8) (hs : s.length < 9223372036854775808) (ht : vFn Try.prog 300 (c15 g) 15 [.sym 64, .fn g []] 65 = t15 g) :
  Pure Try.prog 15 [.str s, .fn g []] (.int .i64 (span p s : Int)) := by
 refine pure_pat (args' := [.sym 64, .fn g []]) (ls := [.str s]) (c := c15 g) (n := 300) (t := t15 g) mo ov rfl rfl rfl rfl (fun Y _ => rfl) (fun Y _ => known0 _) rfl ht fun Y hf hg' => ?_
 unfold t15
 refine VOK_loop (ι := Nat) (fun n => [.int .i64 (n : Int)]) (fun n => n ≤ s.length ∧ span p s = n + span p (s.drop n)) (fun n => s.length - n) 0 ⟨Nat.zero_le _, by simp⟩ rfl (fun _ _ => rfl) (fun i j _ _ h => ?_) (fun n hn => ?_)
 ·simp at h; have h : i = j := by omega
  rw [h]
 obtain ⟨hn, hc⟩ := hn
 refine VOK_lt (run_len_str str9 s) rfl (VOK_lt (run_lss ..) rfl (VOK_ite rfl (fun hlt => ?_) (fun hlt => ?_)))
 ·have hlt : n < s.length := by simp only [decide_eq_true_eq] at hlt; omega
  have hx := span_at p s n hlt
  refine VOK_lt (run_idx_str str9 s .i64 n hlt) rfl (VOK_call (hg _) rfl rfl (VOK_ite rfl (fun h => VOK_lt (run_add ..) rfl (VOK_again rfl ⟨n + 1, ⟨by omega, ?_⟩, ?_, by omega⟩)) (fun h => VOK_done ?_)))
  ·rw [hc, hx, h]; simp; omega
  ·exact congrArg (fun x => [AV.int .i64 x]) (inc64 (by omega))
  ·rw [h] at hx
   show AV.int .i64 (n : Int) = _
   rw [hc, hx]; rfl
 ·have hlt : ¬ n < s.length := by simp only [decide_eq_false_iff_not] at hlt; omega
  refine VOK_done ?_
  show AV.int .i64 (n : Int) = _
  rw [hc, List.drop_eq_nil_of_le (by omega)]; rfl
theorem p15nl (s : List UInt8) (hs : s.length < 9223372036854775808) : Pure Try.prog 15 [.str s, .fn 16 []] (.int .i64 (span notNl s : Int)) := p15g 16 notNl p16 s hs (by kernel_rfl)
theorem p15ld (s : List UInt8) (hs : s.length < 9223372036854775808) : Pure Try.prog 15 [.str s, .fn 18 []] (.int .i64 (span isLD s : Int)) := p15g 18 isLD p18 s hs (by kernel_rfl)
theorem p15d (s : List UInt8) (hs : s.length < 9223372036854775808) : Pure Try.prog 15 [.str s, .fn 19 []] (.int .i64 (span isD s : Int)) := p15g 19 isD p19 s hs (by kernel_rfl)
def c26 : VC := ⟨⟨[], []⟩, [], [], 0, false, []⟩
def t26 : VT :=
 (.lt (.len 9) [64] 66 none
 (.lt (.len 9) [65] 67 none
 (.lt (.bin .geq 3 false false) [66, 67] 68 none
 (.ite 68
 (.lt (.len 9) [65] 69 none
 (.lt (.slc 9 false true) [64, 69] 70 none
 (.lt (.bin .eql 9 false false) [70, 65] 71 none
 (.done (71)))))
 (.done (.bool false))))))
def pre (s p : List UInt8) : Bool := p.isPrefixOf s
theorem pre_take (s p : List UInt8) (h : p.length ≤ s.length) : pre s p = decide (s.take p.length = p) := by
 unfold pre
 rw [Bool.eq_iff_iff, List.isPrefixOf_iff_prefix, decide_eq_true_eq, List.prefix_iff_eq_take]
 exact ⟨fun h => h.symm, fun h => h.symm⟩
theorem p26 (s p : List UInt8) : Pure Try.prog 26 [.str s, .str p] (.bool (pre s p)) := by
 refine pure_shape (sh := [none, none]) (ls := [.str s, .str p]) (c := c26) (n := 300) (t := t26) mo ov rfl rfl rfl (fun Y _ => known0 _) rfl (by kernel_rfl) fun Y hf hg => ?_
 unfold t26
 refine VOK_lt (run_len_str str9 s) rfl (VOK_lt (run_len_str str9 p) rfl (VOK_lt (run_geq ..) rfl (VOK_ite rfl (fun h => ?_) (fun h => VOK_done ?_))))
 ·have h : p.length ≤ s.length := by simp only [decide_eq_true_eq] at h; omega
  refine VOK_lt (run_len_str str9 p) rfl (VOK_lt (run_slc01_str str9 s .i64 p.length h) rfl (VOK_lt (run_eqs ..) rfl (VOK_done ?_)))
  show AV.bool _ = _
  rw [pre_take s p h]
 ·have h : ¬ p.length ≤ s.length := by simp only [decide_eq_false_iff_not] at h; omega
  show AV.bool false = _
  congr 1
  symm
  unfold pre
  cases hb : p.isPrefixOf s with
  | false => rfl
  | true => exact absurd (List.isPrefixOf_iff_prefix.1 hb).length_le h
def c14 : VC := ⟨⟨[], []⟩, [(26, [none])], [], 0, false, []⟩
def t14 : VT :=
 (.call 26 [64, 65] 66 [none]
 (.done (66)))
theorem p14 (s p : List UInt8) : Pure Try.prog 14 [.str s, .str p] (.bool (pre s p)) := by
 refine pure_shape (sh := [none, none]) (ls := [.str s, .str p]) (c := c14) (n := 300) (t := t14) mo ov rfl rfl rfl (fun Y _ => known0 _) rfl (by kernel_rfl) fun Y hf hg => ?_
 unfold t14
 exact VOK_call (p26 s p) rfl rfl (VOK_done rfl)
theorem p29 (s : List UInt8) (c : UInt8) : Pure Try.prog 29 [.str s, .int .u8 (c.toNat : Int)] (.int .i64 (Lib.indexByte s c)) := by
 refine pure_call args_str_int (fun E => by simp only [Con]; rfl) fun E w _ _ => ?_
 have := Try.strings_IndexByte ⟨⟨s⟩⟩ (c.toNat : Int) w
 have e : (c.toNat : Int).toNat.toUInt8 = c := by simp
 rw [e] at this
 exact this
theorem p28 (s p : List UInt8) (hs : s.length < 4294967281) : Pure Try.prog 28 [.str s, .str p] (.bool (Lib.contains s p)) := by
 refine pure_call args_str_str (fun E => by simp only [Con]; rfl) fun E w hg hi => ?_
 obtain ⟨m, hm⟩ := cell_I hg hi
 exact Try.strings_Contains ⟨⟨s⟩⟩ ⟨⟨p⟩⟩ m w hs hm
end Go.Proofs.Ytmhcemkembijeaa.vars
set_option maxRecDepth 100000
set_option linter.unusedVariables false
set_option linter.unusedSimpArgs false
namespace Go.Proofs.Ytmhcemkembijeaa.vars
open Go Go.Sx
def isB (c : UInt8) : Bool := decide (c = 32) || (decide (c = 9) || decide (c = 10))
def bl : Bool → List UInt8 → Nat
 | _, [] => 0
 | true, c :: r => 1 + bl (notNl c) r
 | false, c :: r => if isB c then 1 + bl false r else if c = 47 ∧ r.head? = some 47 then 1 + bl true r else 0
theorem nl_iff (c : UInt8) : notNl c = true ↔ c ≠ 10 := by
 unfold notNl
 rw [Bool.not_eq_true', decide_eq_false_iff_not]
 constructor
 ·rintro h rfl; exact h rfl
 ·intro h e; exact h (UInt8.toNat_inj.1 (by show c.toNat = 10; omega))
theorem bl_le : ∀ (b : Bool) (s : List UInt8), bl b s ≤ s.length
 | true, [] => Nat.le_refl _
 | false, [] => Nat.le_refl _
 | true, c :: r => by have := bl_le (notNl c) r; simp only [bl, List.length_cons]; omega
 | false, c :: r => by
   have h1 := bl_le false r
   have h2 := bl_le true r
   simp only [bl, List.length_cons]
   split
   ·omega
   ·split <;> omega
theorem bl_true (s : List UInt8) : bl true s = span notNl s + bl false (s.drop (span notNl s)) := by
 induction s with
 | nil => rfl
 | cons c r ih =>
   simp only [bl]
   unfold span at ih ⊢
   rw [List.takeWhile_cons]
   cases h : notNl c with
   | true =>
     simp only [reduceIte, List.length_cons, List.drop_succ_cons]
     rw [ih]; omega
   | false =>
     have : c = 10 := by
      by_cases e : c = 10
      ·exact e
      ·rw [(nl_iff c).2 e] at h; cases h
     subst this
     simp only [Bool.false_eq_true, reduceIte, List.length_nil, List.drop_zero, bl]
     rw [if_pos (by decide)]; omega
theorem int_u8 (c d : UInt8) : decide ((c.toNat : Int) = (d.toNat : Int)) = decide (c = d) := by
 rw [Bool.eq_iff_iff, decide_eq_true_eq, decide_eq_true_eq]
 constructor
 ·intro h; exact UInt8.toNat_inj.1 (by omega)
 ·rintro rfl; rfl
theorem at_eq {s : List UInt8} {n : Nat} (h : n < s.length) (d : UInt8) (k : Int) (hk : (d.toNat : Int) = k) (t : TypeId) (cx cy : Bool) : (XOp.bin .eql t cx cy).run Try.prog [.int .u8 (s[n].toNat : Int), .int .u8 k] = some (.bool (decide (s[n] = d))) := by
 rw [run_eql, ← hk, int_u8]
theorem pre_slash (c : UInt8) (r : List UInt8) : pre (c :: r) [47, 47] = (decide (c = 47 ∧ r.head? = some 47)) := by
 unfold pre
 cases r with
 | nil => simp [List.isPrefixOf]
 | cons d r =>
   simp only [List.isPrefixOf, List.head?_cons, Option.some.injEq]
   rw [Bool.eq_iff_iff]
   simp only [Bool.and_eq_true, beq_iff_eq, decide_eq_true_eq, and_true]
   exact ⟨fun ⟨a, b⟩ => ⟨a.symm, b.symm⟩, fun ⟨a, b⟩ => ⟨a.symm, b.symm⟩⟩
def c10 : VC := ⟨⟨[], []⟩, [(14, [none]), (15, [none])], [(0, [⟨[(2, .slx 0 0 0), (0, 64)], [], 0, 1, [], [], []⟩])], 0, false, []⟩
def t10 : VT :=
 (.loop 65 0 [J 0]
 (.cons 1
 (.lt (.len 9) [64] 66 none
 (.lt (.bin .lss 3 false false) [65, 66] 67 none
 (.ite 67
 (.lt (.idx 9) [64, 65] 68 none
 (.lt (.bin .eql 5 false true) [68, .int .u8 32] 69 none
 (.ite 69
 (.lt (.bin .add 3 false true) [65, J 1] 70 none
 (.again 0 0 [70]))
 (.lt (.idx 9) [64, 65] 70 none
 (.lt (.bin .eql 5 false true) [70, .int .u8 9] 71 none
 (.ite 71
 (.lt (.bin .add 3 false true) [65, J 1] 72 none
 (.again 0 0 [72]))
 (.lt (.idx 9) [64, 65] 72 none
 (.lt (.bin .eql 5 false true) [72, .int .u8 10] 73 none
 (.ite 73
 (.lt (.bin .add 3 false true) [65, J 1] 74 none
 (.again 0 0 [74]))
 (.lt (.slc 9 true false) [64, 65] 74 none
 (.call 14 [74, .str [47, 47]] 75 [none]
 (.ite 75
 (.lt (.slc 9 true false) [64, 65] 76 none
 (.call 15 [76, .fn 16 []] 77 [none]
 (.lt (.bin .add 3 false false) [65, 77] 78 none
 (.again 0 0 [78]))))
 (.done (65))))))))))))))
 (.done (65)))))
 .nil))
theorem p10 (s : List UInt8) (hs : s.length < 9223372036854775807) : Pure Try.prog 10 [.str s] (.int .i64 (bl false s : Int)) := by
 refine pure_shape (sh := [none]) (ls := [.str s]) (c := c10) (n := 300) (t := t10) mo ov rfl rfl rfl (fun Y _ => known0 _) rfl (by kernel_rfl) fun Y hf hg => ?_
 unfold t10
 refine VOK_loop (ι := Nat) (fun n => [.int .i64 (n : Int)]) (fun n => n ≤ s.length ∧ bl false s = n + bl false (s.drop n)) (fun n => s.length - n) 0 ⟨Nat.zero_le _, by simp⟩ rfl (fun _ _ => rfl) (fun i j _ _ h => ?_) (fun n hn => ?_)
 ·simp at h; have h : i = j := by omega
  rw [h]
 obtain ⟨hn, hc⟩ := hn
 refine VOK_lt (run_len_str str9 s) rfl (VOK_lt (run_lss ..) rfl (VOK_ite rfl (fun hlt => ?_) (fun hlt => ?_)))
 ·have hlt : n < s.length := by simp only [decide_eq_true_eq] at hlt; omega
  have hd := List.drop_eq_getElem_cons hlt
  have hblank : isB s[n] = true → bl false s = n + 1 + bl false (s.drop (n + 1)) := fun h => by
   rw [hc, hd]; simp only [bl, h, reduceIte]; omega
  refine VOK_lt (run_idx_str str9 s .i64 n hlt) rfl (VOK_lt (at_eq hlt 32 32 rfl ..) rfl (VOK_ite rfl (fun h32 => VOK_lt (run_add ..) rfl (VOK_again rfl ⟨n + 1, ⟨hlt, hblank ?_⟩, congrArg (fun x => [AV.int .i64 x]) (inc64 (by omega)), by omega⟩)) (fun h32 => ?_)))
  ·unfold isB; rw [h32]; rfl
  refine VOK_lt (run_idx_str str9 s .i64 n hlt) rfl (VOK_lt (at_eq hlt 9 9 rfl ..) rfl (VOK_ite rfl (fun h9 => VOK_lt (run_add ..) rfl (VOK_again rfl ⟨n + 1, ⟨hlt, hblank ?_⟩, congrArg (fun x => [AV.int .i64 x]) (inc64 (by omega)), by omega⟩)) (fun h9 => ?_)))
  ·unfold isB; rw [h9]; simp
  refine VOK_lt (run_idx_str str9 s .i64 n hlt) rfl (VOK_lt (at_eq hlt 10 10 rfl ..) rfl (VOK_ite rfl (fun h10 => VOK_lt (run_add ..) rfl (VOK_again rfl ⟨n + 1, ⟨hlt, hblank ?_⟩, congrArg (fun x => [AV.int .i64 x]) (inc64 (by omega)), by omega⟩)) (fun h10 => ?_)))
  ·unfold isB; rw [h10]; simp
  have hno : isB s[n] = false := by unfold isB; rw [h32, h9, h10]; rfl
  refine VOK_lt (run_slc10_str str9 s .i64 n hn) rfl (VOK_call (p14 _ _) rfl rfl (VOK_ite rfl (fun hp => ?_) (fun hp => VOK_done ?_)))
  ·have hp' : s[n] = 47 ∧ (s.drop (n + 1)).head? = some 47 := by
     have := pre_slash s[n] (s.drop (n + 1))
     rw [← hd, hp] at this
     exact of_decide_eq_true this.symm
   have hsp : span notNl (s.drop n) ≤ (s.drop n).length := span_le _ _
   have hsp1 : 1 ≤ span notNl (s.drop n) := by
    rw [span_at notNl s n hlt, (nl_iff _).2 (by rw [hp'.1]; decide), if_pos rfl]; omega
   rw [List.length_drop] at hsp
   refine VOK_lt (run_slc10_str str9 s .i64 n hn) rfl (VOK_call (p15nl (s.drop n) (by rw [List.length_drop]; omega)) rfl rfl (VOK_lt (run_add ..) rfl (VOK_again rfl ⟨n + span notNl (s.drop n), ⟨by omega, ?_⟩, congrArg (fun x => [AV.int .i64 x]) (add64 (by omega)), by omega⟩)))
   have e : bl false (s.drop n) = bl true (s.drop n) := by
    conv => lhs; rw [hd]
    simp only [bl, hno, Bool.false_eq_true, reduceIte, if_pos hp']
    conv => rhs; rw [hd]
    simp only [bl, (nl_iff s[n]).2 (by rw [hp'.1]; decide)]
   rw [hc, e, bl_true, List.drop_drop]; omega
  ·have hp' : ¬ (s[n] = 47 ∧ (s.drop (n + 1)).head? = some 47) := by
     have := pre_slash s[n] (s.drop (n + 1))
     rw [← hd, hp] at this
     exact of_decide_eq_false this.symm
   show AV.int .i64 (n : Int) = _
   rw [hc, hd]; simp only [bl, hno, Bool.false_eq_true, reduceIte, if_neg hp']; rfl
 ·have hlt : ¬ n < s.length := by simp only [decide_eq_false_iff_not] at hlt; omega
  refine VOK_done ?_
  show AV.int .i64 (n : Int) = _
  rw [hc, List.drop_eq_nil_of_le (by omega)]; rfl
def val (s : List UInt8) : Nat := s.foldl (fun v c => v * 10 + (c.toNat - 48)) 0
theorem val_snoc (s : List UInt8) (c : UInt8) : val (s ++ [c]) = val s * 10 + (c.toNat - 48) := by
 unfold val; rw [List.foldl_append]; rfl
theorem val_take (s : List UInt8) (n : Nat) (h : n < s.length) : val (s.take (n + 1)) = val (s.take n) * 10 + (s[n].toNat - 48) := by
 rw [List.take_succ_eq_append_getElem h, val_snoc]
theorem val_lt : ∀ (n : Nat) (s : List UInt8), s.length = n → (∀ c ∈ s, isD c = true) → val s < 10 ^ n
 | 0, s, h, _ => by obtain rfl : s = [] := List.length_eq_zero_iff.1 h; decide
 | n + 1, s, h, hd => by
   have hl : n < s.length := by omega
   have e : s = s.take n ++ [s[n]] := by
    rw [← List.take_succ_eq_append_getElem hl, List.take_of_length_le (by omega)]
   have h1 := val_lt n (s.take n) (by rw [List.length_take]; omega) fun c hc => hd c (List.mem_of_mem_take hc)
   have h2 := (isD_iff s[n]).1 (hd _ (List.getElem_mem hl))
   rw [e, val_snoc, Nat.pow_succ]; omega
def c27 : VC := ⟨⟨[], []⟩, [], [(0, [⟨[(6, .slx 0 0 0), (0, 64), (2, .slx 1 0 0), (5, 65)], [], 0, 2, [], [], []⟩])], 0, false, []⟩
def t27 : VT :=
 (.lt (.len 9) [64] 65 none
 (.loop 66 0 [J 0, J 0]
 (.cons 2
 (.lt (.bin .lss 3 false false) [66, 65] 68 none
 (.ite 68
 (.lt (.bin .mul 2 true false) [J 10, 67] 69 none
 (.lt (.idx 9) [64, 66] 70 none
 (.lt (.bin .sub 5 false true) [70, .int .u8 48] 71 none
 (.lt (.conv 5 2) [71] 72 none
 (.lt (.bin .add 2 false false) [69, 72] 73 none
 (.lt (.bin .add 3 false true) [66, J 1] 74 none
 (.again 0 0 [74, 73])))))))
 (.done (67))))
 .nil)))
theorem dig_wrap {c : UInt8} (h : isD c = true) : IntKind.u8.wrap ((c.toNat : Int) - 48) = ((c.toNat - 48 : Nat) : Int) := by
 have := (isD_iff c).1 h
 simp [IntKind.wrap, IntKind.bits, IntKind.signed]; omega
theorem pow15 {n : Nat} (h : n ≤ 15) : 10 ^ n ≤ 1000000000000000 := Nat.pow_le_pow_right (by decide) h
theorem p27 (s : List UInt8) (hs : s.length ≤ 15) (hd : ∀ c ∈ s, isD c = true) : Pure Try.prog 27 [.str s] (.int .i64 (val s : Int)) := by
 refine pure_shape (sh := [none]) (ls := [.str s]) (c := c27) (n := 300) (t := t27) mo ov rfl rfl rfl (fun Y _ => known0 _) rfl (by kernel_rfl) fun Y hf hg => ?_
 unfold t27
 refine VOK_lt (run_len_str str9 s) rfl (VOK_loop (ι := Nat) (fun n => [.int .i64 (n : Int), .int .i64 (val (s.take n) : Int)]) (fun n => n ≤ s.length) (fun n => s.length - n) 0 (Nat.zero_le _) rfl (fun _ _ => rfl) (fun i j _ _ h => ?_) (fun n hn => ?_))
 ·simp at h; have h : i = j := by omega
  rw [h]
 refine VOK_lt (run_lss ..) rfl (VOK_ite rfl (fun hlt => ?_) (fun hlt => ?_))
 ·have hlt : n < s.length := by simp only [decide_eq_true_eq] at hlt; omega
  have hdn := hd _ (List.getElem_mem hlt)
  have hv := val_lt n (s.take n) (by rw [List.length_take]; omega) fun c hc => hd c (List.mem_of_mem_take hc)
  have hp := pow15 (n := n) (by omega)
  have hdig := (isD_iff _).1 hdn
  refine VOK_lt (run_mul ..) rfl (VOK_lt (run_idx_str str9 s .i64 n hlt) rfl (VOK_lt (run_sub ..) rfl (VOK_lt (run_conv_ii Try.underlying5 Try.underlying2 _) rfl (VOK_lt (run_add ..) rfl (VOK_lt (run_add ..) rfl (VOK_again rfl ⟨n + 1, hlt, ?_, by omega⟩))))))
  rw [dig_wrap hdn, wrap64 (x := 10 * _) (by omega) (by omega), wrap64 (x := ((_ : Nat) : Int)) (by omega) (by omega), wrap64 (by omega) (by omega), inc64 (by omega)]
  refine congrArg (fun x => [AV.int .i64 ((n + 1 : Nat) : Int), AV.int .i64 x]) ?_
  rw [val_take s n hlt]; omega
 ·have hlt : ¬ n < s.length := by simp only [decide_eq_false_iff_not] at hlt; omega
  refine VOK_done ?_
  show AV.int .i64 _ = _
  rw [List.take_of_length_le (by omega)]
end Go.Proofs.Ytmhcemkembijeaa.vars
