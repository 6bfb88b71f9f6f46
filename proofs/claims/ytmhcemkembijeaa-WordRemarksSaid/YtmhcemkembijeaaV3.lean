/-
  Numbers, marks, words at the front of a text.
-/
import Derived.Test.YtmhcemkembijeaaFA
import Derived.KernelRfl
set_option maxRecDepth 100000
set_option linter.unusedVariables false
set_option linter.unusedSimpArgs false
namespace Go.Proofs.Ytmhcemkembijeaa.vars
open Go Go.Sx
def tensT (k : Nat) : Nat := FloatKind.f64.nearest ((10 ^ k : Nat) : Int)
def ten : Nat := 4621819117588971520
theorem tens_all : ((List.range 15).all fun k => FloatKind.f64.format.mul (tensT k) ten == some (tensT (k + 1))) = true := by kernel_rfl
theorem tens_mul {k : Nat} (h : k < 15) : FloatKind.f64.format.mul (tensT k) ten = some (tensT (k + 1)) := by
 have := List.all_eq_true.1 tens_all k (List.mem_range.2 h)
 exact eq_of_beq this
def posB (n : Nat) : Bool := match Ieee.double.read n with
 | .number _ m _ => m != 0
 | _ => false
theorem tens_pos_all : ((List.range 16).all fun k => posB (tensT k)) = true := by kernel_rfl
theorem tens_pos {k : Nat} (h : k ≤ 15) : posB (tensT k) = true := List.all_eq_true.1 tens_pos_all k (List.mem_range.2 (by omega))
theorem nan_word (neg : Bool) (r : Nat) (h : r ≤ 9218868437227405312) : nanB (Ieee.double.word neg r) = false := by
 have e : Ieee.double.word neg r = if neg then 9223372036854775808 + r else r := rfl
 rw [e]
 unfold nanB
 rw [decide_eq_false_iff_not]
 split <;> omega
theorem nan_nearest (neg : Bool) (m : Nat) (p : Int) : nanB (Ieee.double.nearest neg m p) = false := by
 have e2 : Ieee.double.infRung = 9218868437227405312 := rfl
 unfold Ieee.Format.nearest
 split
 ·exact nan_word neg 0 (by omega)
 ·exact nan_word neg _ (by rw [e2]; exact Nat.min_le_right _ _)
theorem nan_int (v : Int) : nanB (FloatKind.f64.nearest v) = false := nan_nearest _ _ _
def quoF (v k : Nat) : Nat := (Ieee.double.div (FloatKind.f64.nearest (v : Int)) (tensT k)).getD 0
theorem div_some {x y : Nat} (hx : nanB x = false) (hy : posB y = true) : ∃ z, Ieee.double.div x y = some z := by
 unfold Ieee.Format.div
 unfold posB at hy
 split at hy
 case h_2 => cases hy
 rename_i t n j e
 rw [e]
 have hn : n ≠ 0 := by simpa using hy
 rcases read_cases x with ⟨h, _⟩ | ⟨_, _, s, ex⟩ | ⟨_, _, ⟨s, m, i, _, _, ex⟩ | ⟨s, ex⟩⟩
 ·rw [hx] at h; cases h
 ·rw [ex]
  simp only [Ieee.Datum.quotient, if_neg hn, Option.map_some]
  exact ⟨_, rfl⟩
 ·rw [ex]
  simp only [Ieee.Datum.quotient, if_neg hn, Option.map_some]
  exact ⟨_, rfl⟩
 ·rw [ex]
  simp only [Ieee.Datum.quotient, Option.map_some]
  exact ⟨_, rfl⟩
theorem run_tens (t : TypeId) (cx cy : Bool) {k : Nat} (h : k < 15) : (XOp.bin .mul t cx cy).run Try.prog [.flt .f64 (tensT k), .flt .f64 ten] = some (.flt .f64 (tensT (k + 1))) := by
 rw [run_flt]
 show some (mkF .f64 (FloatKind.f64.format.mul (tensT k) ten)) = _
 rw [tens_mul h]; rfl
theorem run_quo (t : TypeId) (cx cy : Bool) (v : Nat) {k : Nat} (h : k ≤ 15) : (XOp.bin .quo t cx cy).run Try.prog [.flt .f64 (FloatKind.f64.nearest (v : Int)), .flt .f64 (tensT k)] = some (.flt .f64 (quoF v k)) := by
 rw [run_flt]
 show some (mkF .f64 (Ieee.double.div (FloatKind.f64.nearest (v : Int)) (tensT k))) = _
 obtain ⟨z, hz⟩ := div_some (nan_int v) (tens_pos h)
 unfold quoF
 rw [hz]; rfl
structure GWord where
 kind : Int
 s : List UInt8
 n : Int
 f : Nat
 place : Int
def encW (w : GWord) : List AV := [.int .i64 w.kind, .str w.s, .int .i64 w.n, .flt .f64 w.f, .int .i64 w.place]
def noW : GWord := ⟨0, [], 0, 0, 0⟩
def behind : List UInt8 → Nat
 | c :: r => if c = 46 then span isD r else 0
 | [] => 0
def isMs : List UInt8 → Bool
 | a :: b :: t => decide (a = 109) && (decide (b = 115) && match t with | [] => true | c :: _ => !isLD c)
 | _ => false
def msS (s : List UInt8) : GWord × Nat := if isMs (s.drop (span isD s)) then (⟨4, [], val (s.take (span isD s)), 0, 0⟩, span isD s + 2) else (⟨2, [], val (s.take (span isD s)), 0, 0⟩, span isD s)
def realS (s : List UInt8) (b : Nat) : GWord × Nat := (⟨3, [], 0, quoF (val (s.take (span isD s) ++ (s.drop (span isD s + 1)).take b)) b, 0⟩, span isD s + 1 + b)
def numS (s : List UInt8) : Option (GWord × Nat) :=
 if 15 < span isD s + behind (s.drop (span isD s)) then none
 else if 0 < behind (s.drop (span isD s)) then some (realS s (behind (s.drop (span isD s))))
 else some (msS s)
def oneRes (no : GWord) : Option (GWord × Nat) → AV
 | some (w, n) => .tup [.agg (encW w), .int .i64 (n : Int), .bool true]
 | none => .tup [.agg (encW no), .int .i64 0, .bool false]
theorem oneRes_ref (no : GWord) (o : Option (GWord × Nat)) : noRef (oneRes no o) = true := by
 rcases o with _ | ⟨w, n⟩ <;> rfl
theorem span_mem (p : UInt8 → Bool) (s : List UInt8) : ∀ c ∈ s.take (span p s), p c = true := by
 intro c hc
 have e : s.take (span p s) = s.takeWhile p := by
  unfold span
  exact (List.prefix_iff_eq_take.1 (List.takeWhile_prefix p)).symm
 rw [e] at hc
 exact List.all_eq_true.1 (List.all_takeWhile) c hc
theorem ms_shape {r : List UInt8} (h : pre r [109, 115] = true) : ∃ t, r = 109 :: 115 :: t := by
 obtain ⟨t, ht⟩ := List.isPrefixOf_iff_prefix.1 h
 exact ⟨t, ht.symm⟩
theorem ms_not {r : List UInt8} (h : pre r [109, 115] = false) : isMs r = false := by
 rcases r with _ | ⟨a, _ | ⟨b, t⟩⟩
 ·rfl
 ·rfl
 ·unfold pre at h
  simp only [List.isPrefixOf, Bool.and_true, Bool.and_eq_false_iff] at h
  unfold isMs
  rcases h with h | h
  ·have : a ≠ 109 := fun e => by subst e; simp at h
   simp [this]
  ·have : b ≠ 115 := fun e => by subst e; simp at h
   simp [this]
def c20 : VC := ⟨⟨[], []⟩, [(15, [none]), (27, [none]), (14, [none]), (17, [none]), (19, [none])], [(0, [⟨[(34, .slx 0 0 0), (6, .slx 1 0 0), (0, 64), (3, 65), (5, 72), (2, .ptr 0 0), (33, 72)], [(0, [J 0, .str [], J 0, .flt .f64 0, J 0])], 1, 2, [], [], []⟩])], 0, false, []⟩
def m20 (q : Nat) : VT :=
     (.lt (.slc 9 false true) [.sym 64, .sym 65] q none
     (.call 27 [.sym q] (q + 1) [none]
     (.lt (.slc 9 true false) [.sym 64, .sym 65] (q + 2) none
     (.call 14 [.sym (q + 2), .str [109, 115]] (q + 3) [none]
     (.ite (q + 3)
      (.lt (.len 9) [.sym (q + 2)] (q + 4) none
      (.lt (.bin .eql 3 false true) [.sym (q + 4), .int .i64 2] (q + 5) none
      (.ite (q + 5)
       (.lt (.bin .add 3 false true) [.sym 65, .int .i64 2] (q + 6) none
       (.done (.tup [.agg [.int .i64 4, .str [], .sym (q + 1), .flt .f64 0, .int .i64 0], .sym (q + 6), .bool true])))
       (.lt (.idx 9) [.sym (q + 2), .int .i64 2] (q + 6) none
       (.call 17 [.sym (q + 6)] (q + 7) [none]
       (.lt (.un .not) [.sym (q + 7)] (q + 8) none
       (.ite (q + 8)
        (.lt (.idx 9) [.sym (q + 2), .int .i64 2] (q + 9) none
        (.call 19 [.sym (q + 9)] (q + 10) [none]
        (.lt (.un .not) [.sym (q + 10)] (q + 11) none
        (.ite (q + 11)
         (.lt (.bin .add 3 false true) [.sym 65, .int .i64 2] (q + 12) none
         (.done (.tup [.agg [.int .i64 4, .str [], .sym (q + 1), .flt .f64 0, .int .i64 0], .sym (q + 12), .bool true])))
         (.done (.tup [.agg [.int .i64 2, .str [], .sym (q + 1), .flt .f64 0, .int .i64 0], .sym 65, .bool true]))))))
        (.done (.tup [.agg [.int .i64 2, .str [], .sym (q + 1), .flt .f64 0, .int .i64 0], .sym 65, .bool true])))))))))
      (.done (.tup [.agg [.int .i64 2, .str [], .sym (q + 1), .flt .f64 0, .int .i64 0], .sym 65, .bool true])))))))
def t20 : VT :=
 (.call 15 [64, .fn 19 []] 65 [none]
 (.lt (.len 9) [64] 66 none
 (.lt (.bin .lss 3 false false) [65, 66] 67 none
 (.ite 67
 (.lt (.idx 9) [64, 65] 68 none
 (.lt (.bin .eql 5 false true) [68, .int .u8 46] 69 none
 (.ite 69
 (.lt (.bin .add 3 false true) [65, J 1] 70 none
 (.lt (.slc 9 true false) [64, 70] 71 none
 (.call 15 [71, .fn 19 []] 72 [none]
 (.lt (.bin .add 3 false false) [65, 72] 73 none
 (.lt (.bin .gtr 3 false true) [73, J 15] 74 none
 (.ite 74
 (.done (.tup [.agg [J 0, .str [], J 0, .flt .f64 0, J 0], J 0, .bool false]))
 (.lt (.bin .gtr 3 false true) [72, J 0] 75 none
 (.ite 75
 (.loop 76 0 [J 0, .flt .f64 4607182418800017408]
 (.cons 2
 (.lt (.bin .lss 3 false false) [76, 72] 78 none
 (.ite 78
 (.lt (.bin .mul 31 false true) [77, .flt .f64 4621819117588971520] 79 none
 (.lt (.bin .add 3 false true) [76, J 1] 80 none
 (.again 0 0 [80, 79])))
 (.lt (.slc 9 false true) [64, 65] 79 none
 (.lt (.bin .add 3 false true) [65, J 1] 80 none
 (.lt (.bin .add 3 false true) [65, J 1] 81 none
 (.lt (.bin .add 3 false false) [81, 72] 82 none
 (.lt (.slc 9 true true) [64, 80, 82] 83 none
 (.lt (.bin .add 9 false false) [79, 83] 84 none
 (.call 27 [84] 85 [none]
 (.lt (.conv 2 31) [85] 86 none
 (.lt (.bin .quo 31 false false) [86, 77] 87 none
 (.lt (.bin .add 3 false true) [65, J 1] 88 none
 (.lt (.bin .add 3 false false) [88, 72] 89 none
 (.done (.tup [.agg [J 3, .str [], J 0, 87, J 0], 89, .bool true])))))))))))))))
 .nil))
 (m20 76)))))))))
 (.lt (.bin .add 3 false false) [65, J 0] 70 none
 (.lt (.bin .gtr 3 false true) [70, J 15] 71 none
 (.ite 71
 (.done (.tup [.agg [J 0, .str [], J 0, .flt .f64 0, J 0], J 0, .bool false]))
 (m20 72)))))))
 (.lt (.bin .add 3 false false) [65, J 0] 68 none
 (.lt (.bin .gtr 3 false true) [68, J 15] 69 none
 (.ite 69
 (.done (.tup [.agg [J 0, .str [], J 0, .flt .f64 0, J 0], J 0, .bool false]))
 (m20 70))))))))
theorem add0 {n : Nat} (h : n < 9223372036854775808) : IntKind.i64.wrap ((n : Int) + 0) = (n : Int) := by rw [wrap64 (by omega) (by omega)]; omega
theorem add2 {n : Nat} (h : n < 9223372036854775806) : IntKind.i64.wrap ((n : Int) + 2) = ((n + 2 : Nat) : Int) := by rw [wrap64 (by omega) (by omega)]; rfl
theorem p20 (s : List UInt8) (hs : s.length < 9223372036854775000) : Pure Try.prog 20 [.str s] (oneRes noW (numS s)) := by
 refine pure_shape (sh := [none]) (ls := [.str s]) (c := c20) (n := 300) (t := t20) mo ov rfl rfl (oneRes_ref _ _) (fun Y _ => known0 _) rfl (by kernel_rfl) fun Y hf hg => ?_
 unfold t20
 have hn : span isD s ≤ s.length := span_le _ _
 have hdig := span_mem isD s
 refine VOK_call (p15d s (by omega)) rfl rfl (VOK_lt (run_len_str str9 s) rfl (VOK_lt (run_lss ..) rfl (VOK_ite rfl (fun hlt => ?_) (fun hlt => ?_))))
 ·have hlt : span isD s < s.length := by simp only [decide_eq_true_eq] at hlt; omega
  have hd := List.drop_eq_getElem_cons hlt
  refine VOK_lt (run_idx_str str9 s .i64 _ hlt) rfl (VOK_lt (at_eq hlt 46 46 rfl ..) rfl (VOK_ite rfl (fun hp => ?_) (fun hp => ?_)))
  ·have hp := of_decide_eq_true hp
   have hb : behind (s.drop (span isD s)) = span isD (s.drop (span isD s + 1)) := by rw [hd, hp]; rfl
   have hbl := span_le isD (s.drop (span isD s + 1))
   rw [List.length_drop] at hbl
   have hbd := span_mem isD (s.drop (span isD s + 1))
   refine VOK_lt (run_add ..) rfl ?_
   rw [inc64 (by omega)]
   refine VOK_lt (run_slc10_str str9 s .i64 (span isD s + 1) hlt) rfl (VOK_call (p15d _ (by rw [List.length_drop]; omega)) rfl rfl (VOK_lt (run_add ..) rfl ?_))
   rw [add64 (by omega)]
   refine VOK_lt (run_gtr ..) rfl (VOK_ite rfl (fun h15 => VOK_done ?_) (fun h15 => VOK_lt (run_gtr ..) rfl (VOK_ite rfl (fun h0 => ?_) (fun h0 => ?_))))
   ·have h15 : 15 < span isD s + span isD (s.drop (span isD s + 1)) := by simp only [decide_eq_true_eq] at h15; omega
    unfold numS
    rw [hb, if_pos h15]; rfl
   ·have h15 : span isD s + span isD (s.drop (span isD s + 1)) ≤ 15 := by simp only [decide_eq_false_iff_not] at h15; omega
    have h0 : 0 < span isD (s.drop (span isD s + 1)) := by simp only [decide_eq_true_eq] at h0; omega
    have hres : numS s = some (realS s (span isD (s.drop (span isD s + 1)))) := by
     unfold numS
     rw [hb, if_neg (by omega), if_pos h0]
    generalize span isD (s.drop (span isD s + 1)) = b at *
    refine VOK_loop (ι := Nat) (fun k => [.int .i64 (k : Int), .flt .f64 (tensT k)]) (fun k => k ≤ b) (fun k => b - k) 0 (Nat.zero_le _) rfl (fun _ _ => rfl) (fun i j _ _ h => ?_) (fun k hk => ?_)
    ·simp at h; have h : i = j := by omega
     rw [h]
    refine VOK_lt (run_lss ..) rfl (VOK_ite rfl (fun hlt => ?_) (fun hlt => ?_))
    ·have hlt : k < b := by simp only [decide_eq_true_eq] at hlt; omega
     refine VOK_lt (run_tens 31 false true (by omega)) rfl (VOK_lt (run_add ..) rfl (VOK_again rfl ⟨k + 1, hlt, ?_, by omega⟩))
     exact congrArg (fun x => [AV.int .i64 x, _]) (inc64 (by omega))
    ·have hkb : k = b := by simp only [decide_eq_false_iff_not] at hlt; omega
     subst hkb
     refine VOK_lt (run_slc01_str str9 s .i64 _ hn) rfl (VOK_lt (run_add ..) rfl ?_)
     rw [inc64 (by omega)]
     refine VOK_lt (run_add ..) rfl ?_
     rw [inc64 (by omega)]
     refine VOK_lt (run_add ..) rfl ?_
     rw [add64 (by omega)]
     refine VOK_lt (run_slc11_str str9 s .i64 .i64 (span isD s + 1) (span isD s + 1 + k) (by omega) (by omega)) rfl ?_
     rw [show span isD s + 1 + k - (span isD s + 1) = k by omega]
     refine VOK_lt (run_cat _ _ _ _ (by simp only [List.length_take, List.length_drop]; omega)) rfl (VOK_call (p27 _ (by simp only [List.length_append, List.length_take, List.length_drop]; omega) (fun c hc => ?_)) rfl rfl (VOK_lt (run_conv_if Try.underlying2 Try.underlying31 _) rfl
      (VOK_lt (run_quo 31 false false _ (by omega)) rfl (VOK_lt (run_add ..) rfl ?_))))
     ·rcases List.mem_append.1 hc with hc | hc
      ·exact hdig c hc
      ·exact hbd c hc
     rw [inc64 (by omega)]
     refine VOK_lt (run_add ..) rfl (VOK_done ?_)
     rw [add64 (by omega)]
     rw [hres]; rfl
   ·have h15 : span isD s + span isD (s.drop (span isD s + 1)) ≤ 15 := by simp only [decide_eq_false_iff_not] at h15; omega
    have h0 : ¬ 0 < span isD (s.drop (span isD s + 1)) := by simp only [decide_eq_false_iff_not] at h0; omega
    have hms : numS s = some (msS s) := by
     unfold numS
     rw [hb, if_neg (by omega), if_neg h0]
    have hl : (s.take (span isD s)).length ≤ 15 := by rw [List.length_take]; omega
    unfold m20
    refine VOK_lt (run_slc01_str str9 s .i64 _ hn) rfl (VOK_call (p27 _ hl hdig) rfl rfl (VOK_lt (run_slc10_str str9 s .i64 _ hn) rfl (VOK_call (p14 _ _) rfl rfl (VOK_ite rfl (fun hp => ?_) (fun hp => VOK_done ?_)))))
    ·obtain ⟨t, ht⟩ := ms_shape hp
     have hlen : (s.drop (span isD s)).length = t.length + 2 := by rw [ht]; rfl
     refine VOK_lt (run_len_str str9 _) rfl (VOK_lt (run_eql ..) rfl (VOK_ite rfl (fun h2 => VOK_lt (run_add ..) rfl (VOK_done ?_)) (fun h2 => ?_)))
     ·have h2 : t = [] := List.length_eq_zero_iff.1 (by simp only [decide_eq_true_eq] at h2; omega)
      have : isMs (s.drop (span isD s)) = true := by rw [ht, h2]; rfl
      rw [add2 (by omega), hms]; unfold msS; rw [if_pos this]; rfl
     ·have h2 : t ≠ [] := fun e => by rw [e] at hlen; simp only [hlen] at h2; simp at h2
      obtain ⟨c, t', rfl⟩ := List.exists_cons_of_ne_nil h2
      have h3 : 2 < (s.drop (span isD s)).length := by rw [hlen]; simp
      have hx : (s.drop (span isD s))[2] = c := by rw [List.getElem_of_eq ht h3]; rfl
      have him : isMs (s.drop (span isD s)) = !isLD c := by rw [ht]; rfl
      refine VOK_lt (run_idx_str str9 _ .i64 2 h3) rfl ?_
      rw [hx]
      refine VOK_call (p17 c) rfl rfl (VOK_lt (run_not ..) rfl (VOK_ite rfl (fun hL => ?_) (fun hL => VOK_done ?_)))
      ·refine VOK_lt (run_idx_str str9 _ .i64 2 h3) rfl ?_
       rw [hx]
       refine VOK_call (p19 c) rfl rfl (VOK_lt (run_not ..) rfl (VOK_ite rfl (fun hD => VOK_lt (run_add ..) rfl (VOK_done ?_)) (fun hD => VOK_done ?_)))
       ·have : isMs (s.drop (span isD s)) = true := by
          rw [him]; unfold isLD
          rw [Bool.not_eq_true'] at hL hD
          rw [hL, hD]; rfl
        rw [add2 (by omega), hms]; unfold msS; rw [if_pos this]; rfl
       ·have : ¬ isMs (s.drop (span isD s)) = true := by
          rw [him]; unfold isLD
          rw [Bool.not_eq_false'] at hD
          rw [hD]; simp
        rw [hms]; unfold msS; rw [if_neg this]; rfl
      ·have : ¬ isMs (s.drop (span isD s)) = true := by
         rw [him]; unfold isLD
         rw [Bool.not_eq_false'] at hL
         rw [hL]; simp
       rw [hms]; unfold msS; rw [if_neg this]; rfl
    ·rw [hms]; unfold msS; rw [if_neg (by rw [ms_not hp]; simp)]; rfl
  ·have hp := of_decide_eq_false hp
   have hb : behind (s.drop (span isD s)) = 0 := by rw [hd]; simp only [behind, if_neg hp]
   refine VOK_lt (run_add ..) rfl ?_
   rw [add0 (by omega)]
   refine VOK_lt (run_gtr ..) rfl (VOK_ite rfl (fun h15 => VOK_done ?_) (fun h15 => ?_))
   ·have h15 : 15 < span isD s := by simp only [decide_eq_true_eq] at h15; omega
    unfold numS
    rw [hb, if_pos (by omega)]; rfl
   ·have h15 : span isD s ≤ 15 := by simp only [decide_eq_false_iff_not] at h15; omega
    have hms : numS s = some (msS s) := by
     unfold numS
     rw [hb, if_neg (by omega), if_neg (by omega)]
    have hl : (s.take (span isD s)).length ≤ 15 := by rw [List.length_take]; omega
    unfold m20
    refine VOK_lt (run_slc01_str str9 s .i64 _ hn) rfl (VOK_call (p27 _ hl hdig) rfl rfl (VOK_lt (run_slc10_str str9 s .i64 _ hn) rfl (VOK_call (p14 _ _) rfl rfl (VOK_ite rfl (fun hp => ?_) (fun hp => VOK_done ?_)))))
    ·obtain ⟨t, ht⟩ := ms_shape hp
     have hlen : (s.drop (span isD s)).length = t.length + 2 := by rw [ht]; rfl
     refine VOK_lt (run_len_str str9 _) rfl (VOK_lt (run_eql ..) rfl (VOK_ite rfl (fun h2 => VOK_lt (run_add ..) rfl (VOK_done ?_)) (fun h2 => ?_)))
     ·have h2 : t = [] := List.length_eq_zero_iff.1 (by simp only [decide_eq_true_eq] at h2; omega)
      have : isMs (s.drop (span isD s)) = true := by rw [ht, h2]; rfl
      rw [add2 (by omega), hms]; unfold msS; rw [if_pos this]; rfl
     ·have h2 : t ≠ [] := fun e => by rw [e] at hlen; simp only [hlen] at h2; simp at h2
      obtain ⟨c, t', rfl⟩ := List.exists_cons_of_ne_nil h2
      have h3 : 2 < (s.drop (span isD s)).length := by rw [hlen]; simp
      have hx : (s.drop (span isD s))[2] = c := by rw [List.getElem_of_eq ht h3]; rfl
      have him : isMs (s.drop (span isD s)) = !isLD c := by rw [ht]; rfl
      refine VOK_lt (run_idx_str str9 _ .i64 2 h3) rfl ?_
      rw [hx]
      refine VOK_call (p17 c) rfl rfl (VOK_lt (run_not ..) rfl (VOK_ite rfl (fun hL => ?_) (fun hL => VOK_done ?_)))
      ·refine VOK_lt (run_idx_str str9 _ .i64 2 h3) rfl ?_
       rw [hx]
       refine VOK_call (p19 c) rfl rfl (VOK_lt (run_not ..) rfl (VOK_ite rfl (fun hD => VOK_lt (run_add ..) rfl (VOK_done ?_)) (fun hD => VOK_done ?_)))
       ·have : isMs (s.drop (span isD s)) = true := by
          rw [him]; unfold isLD
          rw [Bool.not_eq_true'] at hL hD
          rw [hL, hD]; rfl
        rw [add2 (by omega), hms]; unfold msS; rw [if_pos this]; rfl
       ·have : ¬ isMs (s.drop (span isD s)) = true := by
          rw [him]; unfold isLD
          rw [Bool.not_eq_false'] at hD
          rw [hD]; simp
        rw [hms]; unfold msS; rw [if_neg this]; rfl
      ·have : ¬ isMs (s.drop (span isD s)) = true := by
         rw [him]; unfold isLD
         rw [Bool.not_eq_false'] at hL
         rw [hL]; simp
       rw [hms]; unfold msS; rw [if_neg this]; rfl
    ·rw [hms]; unfold msS; rw [if_neg (by rw [ms_not hp]; simp)]; rfl
 ·have hlt : ¬ span isD s < s.length := by simp only [decide_eq_false_iff_not] at hlt; omega
  have hb : behind (s.drop (span isD s)) = 0 := by rw [List.drop_eq_nil_of_le (by omega)]; rfl
  refine VOK_lt (run_add ..) rfl ?_
  rw [add0 (by omega)]
  refine VOK_lt (run_gtr ..) rfl (VOK_ite rfl (fun h15 => VOK_done ?_) (fun h15 => ?_))
  ·have h15 : 15 < span isD s := by simp only [decide_eq_true_eq] at h15; omega
   unfold numS
   rw [hb, if_pos (by omega)]; rfl
  ·have h15 : span isD s ≤ 15 := by simp only [decide_eq_false_iff_not] at h15; omega
   have hms : numS s = some (msS s) := by
    unfold numS
    rw [hb, if_neg (by omega), if_neg (by omega)]
   have hl : (s.take (span isD s)).length ≤ 15 := by rw [List.length_take]; omega
   unfold m20
   refine VOK_lt (run_slc01_str str9 s .i64 _ hn) rfl (VOK_call (p27 _ hl hdig) rfl rfl (VOK_lt (run_slc10_str str9 s .i64 _ hn) rfl (VOK_call (p14 _ _) rfl rfl (VOK_ite rfl (fun hp => ?_) (fun hp => VOK_done ?_)))))
   ·obtain ⟨t, ht⟩ := ms_shape hp
    have hlen : (s.drop (span isD s)).length = t.length + 2 := by rw [ht]; rfl
    refine VOK_lt (run_len_str str9 _) rfl (VOK_lt (run_eql ..) rfl (VOK_ite rfl (fun h2 => VOK_lt (run_add ..) rfl (VOK_done ?_)) (fun h2 => ?_)))
    ·have h2 : t = [] := List.length_eq_zero_iff.1 (by simp only [decide_eq_true_eq] at h2; omega)
     have : isMs (s.drop (span isD s)) = true := by rw [ht, h2]; rfl
     rw [add2 (by omega), hms]; unfold msS; rw [if_pos this]; rfl
    ·have h2 : t ≠ [] := fun e => by rw [e] at hlen; simp only [hlen] at h2; simp at h2
     obtain ⟨c, t', rfl⟩ := List.exists_cons_of_ne_nil h2
     have h3 : 2 < (s.drop (span isD s)).length := by rw [hlen]; simp
     have hx : (s.drop (span isD s))[2] = c := by rw [List.getElem_of_eq ht h3]; rfl
     have him : isMs (s.drop (span isD s)) = !isLD c := by rw [ht]; rfl
     refine VOK_lt (run_idx_str str9 _ .i64 2 h3) rfl ?_
     rw [hx]
     refine VOK_call (p17 c) rfl rfl (VOK_lt (run_not ..) rfl (VOK_ite rfl (fun hL => ?_) (fun hL => VOK_done ?_)))
     ·refine VOK_lt (run_idx_str str9 _ .i64 2 h3) rfl ?_
      rw [hx]
      refine VOK_call (p19 c) rfl rfl (VOK_lt (run_not ..) rfl (VOK_ite rfl (fun hD => VOK_lt (run_add ..) rfl (VOK_done ?_)) (fun hD => VOK_done ?_)))
      ·have : isMs (s.drop (span isD s)) = true := by
         rw [him]; unfold isLD
         rw [Bool.not_eq_true'] at hL hD
         rw [hL, hD]; rfl
       rw [add2 (by omega), hms]; unfold msS; rw [if_pos this]; rfl
      ·have : ¬ isMs (s.drop (span isD s)) = true := by
         rw [him]; unfold isLD
         rw [Bool.not_eq_false'] at hD
         rw [hD]; simp
       rw [hms]; unfold msS; rw [if_neg this]; rfl
     ·have : ¬ isMs (s.drop (span isD s)) = true := by
        rw [him]; unfold isLD
        rw [Bool.not_eq_false'] at hL
        rw [hL]; simp
      rw [hms]; unfold msS; rw [if_neg this]; rfl
   ·rw [hms]; unfold msS; rw [if_neg (by rw [ms_not hp]; simp)]; rfl
end Go.Proofs.Ytmhcemkembijeaa.vars
set_option maxRecDepth 100000
set_option linter.unusedVariables false
set_option linter.unusedSimpArgs false
namespace Go.Proofs.Ytmhcemkembijeaa.vars
open Go Go.Sx
def marksT : List UInt8 := [59, 58, 44, 40, 41, 91, 93, 43, 45, 42, 47, 61, 60, 62, 46]
def pairsT : List UInt8 := [58, 61, 32, 60, 62, 32, 60, 61, 32, 62, 61]
def isMark (c : UInt8) : Bool := marksT.contains c
def isPair (a b : UInt8) : Bool := (decide (a = 58 ∧ b = 61) || decide (a = 60 ∧ b = 62)) || (decide (a = 60 ∧ b = 61) || decide (a = 62 ∧ b = 61))
def markS : List UInt8 → List UInt8
 | a :: b :: _ => if isPair a b then [a, b] else if isMark a then [a] else []
 | [a] => if isMark a then [a] else []
 | [] => []
theorem index_mark : ∀ (l : List UInt8) (c : UInt8), decide (0 ≤ Lib.indexByte l c) = l.contains c
 | [], c => rfl
 | b :: l, c => by
   have ih := index_mark l c
   have hge := Lib.indexByte_ge l c
   rw [List.contains_cons]
   unfold Lib.indexByte
   by_cases h : b = c
   ·subst h; simp
   ·have h1 : (b == c) = false := by simpa using h
    have h2 : (c == b) = false := by simpa using fun e : c = b => h e.symm
    rw [h1, h2, ← ih]
    simp only [Bool.false_eq_true, reduceIte, Bool.false_or]
    by_cases e : Lib.indexByte l c = -1
    ·rw [e]; simp
    ·have e1 : (Lib.indexByte l c == -1) = false := by simpa using e
     rw [e1]
     simp only [Bool.false_eq_true, reduceIte]
     rw [Bool.eq_iff_iff, decide_eq_true_eq, decide_eq_true_eq]
     omega
theorem index_step (x : UInt8) (l : List UInt8) (sub : List UInt8) : decide (0 ≤ Lib.index (x :: l) sub) = (sub.isPrefixOf (x :: l) || decide (0 ≤ Lib.index l sub)) := by
 have hge := Lib.index_ge l sub
 conv => lhs; unfold Lib.index
 cases h : sub.isPrefixOf (x :: l) with
 | true => simp
 | false =>
   simp only [Bool.false_eq_true, reduceIte, Bool.false_or]
   by_cases e : Lib.index l sub = -1
   ·rw [e]; simp
   ·have e1 : (Lib.index l sub == -1) = false := by simpa using e
    rw [e1]
    simp only [Bool.false_eq_true, reduceIte]
    rw [Bool.eq_iff_iff, decide_eq_true_eq, decide_eq_true_eq]
    omega
theorem contains_pair (a b : UInt8) (ha : a ≠ 32) (hb : b ≠ 32) : Lib.contains pairsT [a, b] = isPair a b := by
 unfold Lib.contains pairsT
 simp only [index_step]
 have e0 : decide (0 ≤ Lib.index [] [a, b]) = false := by simp [Lib.index]
 rw [e0]
 simp only [List.isPrefixOf, Bool.and_true, Bool.and_false, Bool.or_false, Bool.false_or]
 have ha' : (a == 32) = false := by simpa using ha
 have hb' : (b == 32) = false := by simpa using hb
 simp only [ha', hb', Bool.and_false, Bool.false_and, Bool.or_false, Bool.false_or]
 unfold isPair
 rw [Bool.eq_iff_iff]
 simp only [Bool.or_eq_true, Bool.and_eq_true, beq_iff_eq, decide_eq_true_eq]
 constructor
 ·rintro (h | h | h | h) <;> simp [h]
 ·rintro ((h | h) | (h | h)) <;> simp [h]
theorem pair_blank {a b : UInt8} (h : a = 32 ∨ b = 32) : isPair a b = false := by
 rcases h with rfl | rfl
 ·simp [isPair]
 ·simp [isPair]
def c21 : VC := ⟨⟨[], []⟩, [(28, [none]), (29, [none])], [], 0, false, []⟩
def m21 (q : Nat) : VT :=
     (.lt (.idx 9) [.sym 64, .int .i64 0] q none
     (.call 29 [.str marksT, .sym q] (q + 1) [none]
     (.lt (.bin .geq 3 false true) [.sym (q + 1), .int .i64 0] (q + 2) none
     (.ite (q + 2)
      (.lt (.slc 9 false true) [.sym 64, .int .i64 1] (q + 3) none
      (.done (.sym (q + 3))))
      (.done (.str []))))))
def t21 : VT :=
 (.lt (.len 9) [64] 65 none
 (.lt (.bin .gtr 3 false true) [65, J 1] 66 none
 (.ite 66
 (.lt (.idx 9) [64, J 1] 67 none
 (.lt (.bin .neq 5 false true) [67, .int .u8 32] 68 none
 (.ite 68
 (.lt (.idx 9) [64, J 0] 69 none
 (.lt (.bin .neq 5 false true) [69, .int .u8 32] 70 none
 (.ite 70
 (.lt (.slc 9 false true) [64, J 2] 71 none
 (.call 28 [.str pairsT, 71] 72 [none]
 (.ite 72
 (.lt (.slc 9 false true) [64, J 2] 73 none
 (.done (73)))
 (m21 73))))
 (m21 71))))
 (m21 69))))
 (m21 67))))
theorem at_ne {s : List UInt8} {n : Nat} (h : n < s.length) (d : UInt8) (k : Int) (hk : (d.toNat : Int) = k) (t : TypeId) (cx cy : Bool) : (XOp.bin .neq t cx cy).run Try.prog [.int .u8 (s[n].toNat : Int), .int .u8 k] = some (.bool (!decide (s[n] = d))) := by
 rw [run_neq, ← hk, int_u8]
theorem mark_one (a : UInt8) (r : List UInt8) (h : ∀ b t, r = b :: t → isPair a b = false) : markS (a :: r) = if isMark a then [a] else [] := by
 cases r with
 | nil => rfl
 | cons b t => simp only [markS, h b t rfl, Bool.false_eq_true, reduceIte]
theorem p21 (a : UInt8) (r : List UInt8) (hs : (a :: r).length < 4294967281) : Pure Try.prog 21 [.str (a :: r)] (.str (markS (a :: r))) := by
 refine pure_shape (sh := [none]) (ls := [.str (a :: r)]) (c := c21) (n := 300) (t := t21) mo ov rfl rfl rfl (fun Y _ => known0 _) rfl (by kernel_rfl) fun Y hf hg => ?_
 unfold t21
 have h0 : 0 < (a :: r).length := by simp
 have h1 : 1 ≤ (a :: r).length := by simp
 have hmk : decide (0 ≤ Lib.indexByte marksT a) = isMark a := index_mark marksT a
 refine VOK_lt (run_len_str str9 _) rfl (VOK_lt (run_gtr ..) rfl (VOK_ite rfl (fun hlt => ?_) (fun hlt => ?_)))
 ·obtain ⟨b, t, rfl⟩ : ∃ b t, r = b :: t := by
    cases r with
    | nil => simp at hlt
    | cons b t => exact ⟨b, t, rfl⟩
  have h2 : 2 ≤ (a :: b :: t).length := by simp
  refine VOK_lt (run_idx_str str9 (a :: b :: t) .i64 1 (by simp)) rfl (VOK_lt (at_ne (n := 1) (by simp) 32 32 rfl ..) rfl (VOK_ite rfl (fun hb => ?_) (fun hb => ?_)))
  ·have hb : b ≠ 32 := by simpa using hb
   refine VOK_lt (run_idx_str str9 (a :: b :: t) .i64 0 h0) rfl (VOK_lt (at_ne (n := 0) h0 32 32 rfl ..) rfl (VOK_ite rfl (fun ha => ?_) (fun ha => ?_)))
   ·have ha : a ≠ 32 := by simpa using ha
    refine VOK_lt (run_slc01_str str9 (a :: b :: t) .i64 2 h2) rfl (VOK_call (p28 pairsT [a, b] (by decide)) rfl rfl ?_)
    rw [contains_pair a b ha hb]
    refine VOK_ite rfl (fun hp => VOK_lt (run_slc01_str str9 (a :: b :: t) .i64 2 h2) rfl (VOK_done ?_)) (fun hp => ?_)
    ·show AV.str _ = _
     simp only [markS, hp, reduceIte]; rfl
    ·have hm := mark_one a (b :: t) (fun b' t' e => by cases e; exact hp)
     unfold m21
     refine VOK_lt (run_idx_str str9 (a :: _) .i64 0 h0) rfl (VOK_call (p29 marksT a) rfl rfl (VOK_lt (run_geq ..) rfl ?_))
     rw [hmk]
     refine VOK_ite rfl (fun hi => VOK_lt (run_slc01_str str9 (a :: _) .i64 1 h1) rfl (VOK_done ?_)) (fun hi => VOK_done ?_)
     ·show AV.str _ = _
      rw [hm, hi]; rfl
     ·show AV.str _ = _
      rw [hm, hi]; rfl
   ·have ha : a = 32 := by simpa using ha
    have hm := mark_one a (b :: t) (fun b' t' e => by cases e; exact pair_blank (.inl ha))
    unfold m21
    refine VOK_lt (run_idx_str str9 (a :: _) .i64 0 h0) rfl (VOK_call (p29 marksT a) rfl rfl (VOK_lt (run_geq ..) rfl ?_))
    rw [hmk]
    refine VOK_ite rfl (fun hi => VOK_lt (run_slc01_str str9 (a :: _) .i64 1 h1) rfl (VOK_done ?_)) (fun hi => VOK_done ?_)
    ·show AV.str _ = _
     rw [hm, hi]; rfl
    ·show AV.str _ = _
     rw [hm, hi]; rfl
  ·have hb : b = 32 := by simpa using hb
   have hm := mark_one a (b :: t) (fun b' t' e => by cases e; exact pair_blank (.inr hb))
   unfold m21
   refine VOK_lt (run_idx_str str9 (a :: _) .i64 0 h0) rfl (VOK_call (p29 marksT a) rfl rfl (VOK_lt (run_geq ..) rfl ?_))
   rw [hmk]
   refine VOK_ite rfl (fun hi => VOK_lt (run_slc01_str str9 (a :: _) .i64 1 h1) rfl (VOK_done ?_)) (fun hi => VOK_done ?_)
   ·show AV.str _ = _
    rw [hm, hi]; rfl
   ·show AV.str _ = _
    rw [hm, hi]; rfl
 ·obtain rfl : r = [] := by
    cases r with
    | nil => rfl
    | cons b t => simp at hlt; omega
  have hm := mark_one a [] (fun b' t' e => by cases e)
  unfold m21
  refine VOK_lt (run_idx_str str9 (a :: _) .i64 0 h0) rfl (VOK_call (p29 marksT a) rfl rfl (VOK_lt (run_geq ..) rfl ?_))
  rw [hmk]
  refine VOK_ite rfl (fun hi => VOK_lt (run_slc01_str str9 (a :: _) .i64 1 h1) rfl (VOK_done ?_)) (fun hi => VOK_done ?_)
  ·show AV.str _ = _
   rw [hm, hi]; rfl
  ·show AV.str _ = _
   rw [hm, hi]; rfl
def oneS (s : List UInt8) : Option (GWord × Nat) := match s with
 | [] => none
 | c :: _ => if isL c then some (⟨1, s.take (span isLD s), 0, 0, 0⟩, span isLD s) else if isD c then numS s
   else if markS s = [] then none else some (⟨5, markS s, 0, 0, 0⟩, (markS s).length)
def noOne (s : List UInt8) : GWord := match s with
 | [] => noW
 | c :: _ => if isD c then noW else ⟨5, [], 0, 0, 0⟩
def c11 : VC := ⟨⟨[], []⟩, [(15, [none]), (17, [none]), (19, [none]), (20, [(some 5), none, none]), (21, [none])], [], 0, false, []⟩
def t11 : VT :=
 (.lt (.idx 9) [64, J 0] 65 none
 (.call 17 [65] 66 [none]
 (.ite 66
 (.call 15 [64, .fn 18 []] 67 [none]
 (.lt (.slc 9 false true) [64, 67] 68 none
 (.done (.tup [.agg [J 1, 68, J 0, .flt .f64 0, J 0], 67, .bool true]))))
 (.lt (.idx 9) [64, J 0] 67 none
 (.call 19 [67] 68 [none]
 (.ite 68
 (.call 20 [64] 69 [(some 5), none, none]
 (.done (.tup [.agg [69, 70, 71, 72, 73], 74, 75])))
 (.call 21 [64] 69 [none]
 (.lt (.len 9) [69] 70 none
 (.lt (.bin .neq 9 false true) [69, .str []] 71 none
 (.done (.tup [.agg [J 5, 69, J 0, .flt .f64 0, J 0], 70, 71])))))))))))
theorem p11 (a : UInt8) (r : List UInt8) (hs : (a :: r).length < 4294967281) : Pure Try.prog 11 [.str (a :: r)] (oneRes (noOne (a :: r)) (oneS (a :: r))) := by
 refine pure_shape (sh := [none]) (ls := [.str (a :: r)]) (c := c11) (n := 300) (t := t11) mo ov rfl rfl (oneRes_ref _ _) (fun Y _ => known0 _) rfl (by kernel_rfl) fun Y hf hg => ?_
 unfold t11
 have h0 : 0 < (a :: r).length := by simp
 refine VOK_lt (run_idx_str str9 (a :: r) .i64 0 h0) rfl (VOK_call (p17 a) rfl rfl (VOK_ite rfl (fun hL => ?_) (fun hL => ?_)))
 ·refine VOK_call (p15ld _ (by omega)) rfl rfl (VOK_lt (run_slc01_str str9 _ .i64 _ (span_le _ _)) rfl (VOK_done ?_))
  unfold oneS
  simp only [hL, reduceIte]; rfl
 ·refine VOK_lt (run_idx_str str9 (a :: r) .i64 0 h0) rfl (VOK_call (p19 a) rfl rfl (VOK_ite rfl (fun hD => ?_) (fun hD => ?_)))
  ·have e : oneS (a :: r) = numS (a :: r) := by unfold oneS; simp only [hL, hD, Bool.false_eq_true, reduceIte]
   have e2 : noOne (a :: r) = noW := by unfold noOne; simp only [hD, reduceIte]
   have h20 := p20 (a :: r) (by omega)
   rw [e, e2]
   rcases h : numS (a :: r) with _ | ⟨w, n⟩
   ·rw [h] at h20
    exact VOK_call h20 rfl rfl (VOK_done rfl)
   ·rw [h] at h20
    exact VOK_call h20 rfl rfl (VOK_done rfl)
  ·refine VOK_call (p21 a r hs) rfl rfl (VOK_lt (run_len_str str9 _) rfl (VOK_lt (run_nes ..) rfl (VOK_done ?_)))
   have e2 : noOne (a :: r) = ⟨5, [], 0, 0, 0⟩ := by unfold noOne; simp only [hD, Bool.false_eq_true, reduceIte]
   rw [e2]
   unfold oneS
   simp only [hL, hD, Bool.false_eq_true, reduceIte]
   by_cases hm : markS (a :: r) = []
   ·rw [if_pos hm]
    show AV.tup [.agg [_, .str (markS (a :: r)), _, _, _], .int .i64 ((markS (a :: r)).length : Int), .bool (!decide (markS (a :: r) = []))] = _
    rw [hm]; rfl
   ·rw [if_neg hm]
    show AV.tup [.agg [_, .str (markS (a :: r)), _, _, _], .int .i64 ((markS (a :: r)).length : Int), .bool (!decide (markS (a :: r) = []))] = _
    rw [decide_eq_false hm]; rfl
end Go.Proofs.Ytmhcemkembijeaa.vars
set_option maxRecDepth 100000
set_option linter.unusedVariables false
set_option linter.unusedSimpArgs false
namespace Go.Proofs.Ytmhcemkembijeaa.vars
open Go Go.Sx
def refRes : Option (GWord × Nat) → AV
 | some (w, n) => .tup [.agg (encW w), .int .i64 (n : Int)]
 | none => .tup [.agg (encW noW), .int .i64 0]
theorem refRes_ref (o : Option (GWord × Nat)) : noRef (refRes o) = true := by
 rcases o with _ | ⟨w, n⟩ <;> rfl
theorem isMs_at (s : List UInt8) (n : Nat) (h : n + 1 < s.length) : isMs (s.drop n) = (decide (s[n] = 109) && (decide (s[n + 1] = 115) && if h2 : n + 2 < s.length then !isLD s[n + 2] else true)) := by
 rw [List.drop_eq_getElem_cons (by omega : n < s.length), List.drop_eq_getElem_cons h]
 simp only [isMs]
 by_cases h2 : n + 2 < s.length
 ·rw [dif_pos h2, List.drop_eq_getElem_cons h2]
 ·rw [dif_neg h2, List.drop_eq_nil_of_le (by omega)]
theorem isMs_short (s : List UInt8) (n : Nat) (h : ¬ n + 1 < s.length) : isMs (s.drop n) = false := by
 have : (s.drop n).length ≤ 1 := by rw [List.length_drop]; omega
 rcases hr : s.drop n with _ | ⟨a, _ | ⟨b, t⟩⟩
 ·rfl
 ·rfl
 ·rw [hr] at this; simp at this
theorem behind_at (s : List UInt8) (n : Nat) (h : n < s.length) : behind (s.drop n) = if s[n] = 46 then span isD (s.drop (n + 1)) else 0 := by
 rw [List.drop_eq_getElem_cons h]; rfl
theorem behind_short (s : List UInt8) (n : Nat) (h : ¬ n + 1 < s.length) : behind (s.drop n) = 0 := by
 rcases Nat.lt_or_ge n s.length with h1 | h1
 ·rw [behind_at s n h1, List.drop_eq_nil_of_le (by omega)]
  split <;> rfl
 ·rw [List.drop_eq_nil_of_le h1]; rfl
def w2 (a : AV) : AV := .agg [.int .i64 2, .str [], a, .flt .f64 0, .int .i64 0]
def w4 (a : AV) : AV := .agg [.int .i64 4, .str [], a, .flt .f64 0, .int .i64 0]
def z24 : VT := .done (.tup [.agg [.int .i64 0, .str [], .int .i64 0, .flt .f64 0, .int .i64 0], .int .i64 0])
def n24 : VT := .done (.tup [w2 (.sym 67), .sym 66])
def ms24 (q : Nat) : VT :=
 (.lt (.bin .gtr 3 false true) [.sym 65, .int .i64 15] q none
 (.ite q
  z24
  (.lt (.bin .add 3 false true) [.sym 66, .int .i64 1] (q + 1) none
  (.lt (.len 9) [.sym 64] (q + 2) none
  (.lt (.bin .lss 3 false false) [.sym (q + 1), .sym (q + 2)] (q + 3) none
  (.ite (q + 3)
   (.lt (.idx 9) [.sym 64, .sym 66] (q + 4) none
   (.lt (.bin .eql 5 false true) [.sym (q + 4), .int .u8 109] (q + 5) none
   (.ite (q + 5)
    (.lt (.bin .add 3 false true) [.sym 66, .int .i64 1] (q + 6) none
    (.lt (.idx 9) [.sym 64, .sym (q + 6)] (q + 7) none
    (.lt (.bin .eql 5 false true) [.sym (q + 7), .int .u8 115] (q + 8) none
    (.ite (q + 8)
     (.lt (.bin .add 3 false true) [.sym 66, .int .i64 2] (q + 9) none
     (.lt (.len 9) [.sym 64] (q + 10) none
     (.lt (.bin .eql 3 false false) [.sym (q + 9), .sym (q + 10)] (q + 11) none
     (.ite (q + 11)
      (.lt (.bin .add 3 false true) [.sym 66, .int .i64 2] (q + 12) none
      (.done (.tup [w4 (.sym 67), .sym (q + 12)])))
      (.lt (.bin .add 3 false true) [.sym 66, .int .i64 2] (q + 12) none
      (.lt (.idx 9) [.sym 64, .sym (q + 12)] (q + 13) none
      (.call 22 [.sym (q + 13)] (q + 14) [none]
      (.lt (.un .not) [.sym (q + 14)] (q + 15) none
      (.ite (q + 15)
       (.lt (.bin .add 3 false true) [.sym 66, .int .i64 2] (q + 16) none
       (.lt (.idx 9) [.sym 64, .sym (q + 16)] (q + 17) none
       (.call 23 [.sym (q + 17)] (q + 18) [none]
       (.lt (.un .not) [.sym (q + 18)] (q + 19) none
       (.ite (q + 19)
        (.lt (.bin .add 3 false true) [.sym 66, .int .i64 2] (q + 20) none
        (.done (.tup [w4 (.sym 67), .sym (q + 20)])))
        n24)))))
       n24)))))))))
     n24))))
    n24)))
   n24))))))
def fin24 (q p : Nat) : VT :=
 (.lt (.bin .gtr 3 false true) [.sym q, .int .i64 15] p none
 (.ite p
  z24
  (.lt (.conv 2 31) [.sym (q + 3)] (p + 1) none
  (.lt (.bin .quo 31 false false) [.sym (p + 1), .sym (q + 2)] (p + 2) none
  (.done (.tup [.agg [.int .i64 3, .str [], .int .i64 0, .sym (p + 2), .int .i64 0], .sym (q + 1)]))))))
def real24 (q b : Nat) : VT :=
 (.loop q 0 [.sym 65, .sym b, .flt .f64 4607182418800017408, .sym 67]
  (.cons 4
  (.lt (.len 9) [.sym 64] (q + 4) none
  (.lt (.bin .lss 3 false false) [.sym (q + 1), .sym (q + 4)] (q + 5) none
  (.ite (q + 5)
   (.lt (.idx 9) [.sym 64, .sym (q + 1)] (q + 6) none
   (.call 23 [.sym (q + 6)] (q + 7) [none]
   (.ite (q + 7)
    (.lt (.bin .lss 3 false true) [.sym q, .int .i64 15] (q + 8) none
    (.ite (q + 8)
     (.lt (.bin .mul 2 false true) [.sym (q + 3), .int .i64 10] (q + 9) none
     (.lt (.idx 9) [.sym 64, .sym (q + 1)] (q + 10) none
     (.lt (.bin .sub 5 false true) [.sym (q + 10), .int .u8 48] (q + 11) none
     (.lt (.conv 5 2) [.sym (q + 11)] (q + 12) none
     (.lt (.bin .add 2 false false) [.sym (q + 9), .sym (q + 12)] (q + 13) none
     (.lt (.bin .mul 31 false true) [.sym (q + 2), .flt .f64 4621819117588971520] (q + 14) none
     (.lt (.bin .add 3 false true) [.sym (q + 1), .int .i64 1] (q + 15) none
     (.lt (.bin .add 3 false true) [.sym q, .int .i64 1] (q + 16) none
     (.again 1 0 [.sym (q + 16), .sym (q + 15), .sym (q + 14), .sym (q + 13)])))))))))
     (.lt (.bin .add 3 false true) [.sym (q + 1), .int .i64 1] (q + 9) none
     (.lt (.bin .add 3 false true) [.sym q, .int .i64 1] (q + 10) none
     (.again 1 0 [.sym (q + 10), .sym (q + 9), .sym (q + 2), .sym (q + 3)])))))
    (fin24 q (q + 8)))))
   (fin24 q (q + 6)))))
  .nil))
def exit24 (q : Nat) : VT :=
 (.lt (.bin .add 3 false true) [.sym 66, .int .i64 1] q none
 (.lt (.len 9) [.sym 64] (q + 1) none
 (.lt (.bin .lss 3 false false) [.sym q, .sym (q + 1)] (q + 2) none
 (.ite (q + 2)
  (.lt (.idx 9) [.sym 64, .sym 66] (q + 3) none
  (.lt (.bin .eql 5 false true) [.sym (q + 3), .int .u8 46] (q + 4) none
  (.ite (q + 4)
   (.lt (.bin .add 3 false true) [.sym 66, .int .i64 1] (q + 5) none
   (.lt (.idx 9) [.sym 64, .sym (q + 5)] (q + 6) none
   (.call 23 [.sym (q + 6)] (q + 7) [none]
   (.ite (q + 7)
    (.lt (.bin .add 3 false true) [.sym 66, .int .i64 1] (q + 8) none
    (real24 (q + 9) (q + 8)))
    (ms24 (q + 8))))))
   (ms24 (q + 5)))))
  (ms24 (q + 3))))))
def c24 : VC := ⟨⟨[], []⟩, [(22, [none]), (23, [none])], [(0, [⟨[(5, .slx 0 0 0), (4, .slx 1 0 0), (0, 64), (7, .slx 2 0 0), (6, .flt .f64 4607182418800017408), (2, .ptr 0 0)], [(0, [J 0, .str [], J 0, .flt .f64 0, J 0])], 1, 3, [], [], []⟩]), (2, [⟨[(5, .slx 0 0 0), (4, .slx 1 0 0), (6, .slx 2 0 0), (0, 64), (7, .slx 3 0 0), (2, .ptr 0 0)], [(0, [J 0, .str [], J 0, .flt .f64 0, J 0])], 1, 4, [], [], []⟩])], 0, false, []⟩
def t24 : VT :=
 (.loop 65 0 [J 0, J 0, J 0]
 (.cons 3
 (.lt (.len 9) [64] 68 none
 (.lt (.bin .lss 3 false false) [66, 68] 69 none
 (.ite 69
 (.lt (.idx 9) [64, 66] 70 none
 (.call 23 [70] 71 [none]
 (.ite 71
 (.lt (.bin .lss 3 false true) [65, J 15] 72 none
 (.ite 72
 (.lt (.bin .mul 2 false true) [67, J 10] 73 none
 (.lt (.idx 9) [64, 66] 74 none
 (.lt (.bin .sub 5 false true) [74, .int .u8 48] 75 none
 (.lt (.conv 5 2) [75] 76 none
 (.lt (.bin .add 2 false false) [73, 76] 77 none
 (.lt (.bin .add 3 false true) [66, J 1] 78 none
 (.lt (.bin .add 3 false true) [65, J 1] 79 none
 (.again 0 0 [79, 78, 77]))))))))
 (.lt (.bin .add 3 false true) [66, J 1] 73 none
 (.lt (.bin .add 3 false true) [65, J 1] 74 none
 (.again 0 0 [74, 73, 67])))))
 (exit24 72))))
 (exit24 70))))
 .nil))
def digs (s : List UInt8) (n b : Nat) : List UInt8 := s.take n ++ (s.drop (n + 1)).take b
theorem digs_len (s : List UInt8) (n b : Nat) (h : n + 1 + b ≤ s.length) : (digs s n b).length = n + b := by
 unfold digs; rw [List.length_append, List.length_take, List.length_take, List.length_drop]; omega
theorem digs_take (s : List UInt8) (n b k : Nat) (h : k ≤ n) (hn : n ≤ s.length) : (digs s n b).take k = s.take k := by
 unfold digs
 rw [List.take_append_of_le_length (by rw [List.length_take]; omega), List.take_take, Nat.min_eq_left h]
theorem digs_at (s : List UInt8) (n b j : Nat) (h : n + 1 + b ≤ s.length) (hj : j < b) (hl : n + j < (digs s n b).length) : (digs s n b)[n + j] = s[n + 1 + j] := by
 have hl' : n + j < (s.take n ++ (s.drop (n + 1)).take b).length := hl
 show (s.take n ++ (s.drop (n + 1)).take b)[n + j]'hl' = _
 rw [List.getElem_append_right (by rw [List.length_take]; omega)]
 simp only [List.getElem_take, List.getElem_drop, List.length_take]
 congr 1
 omega
theorem digs_dig (s : List UInt8) (n b : Nat) (hn : n = span isD s) (hb : b = span isD (s.drop (n + 1))) : ∀ c ∈ digs s n b, isD c = true := by
 intro c hc
 unfold digs at hc
 rcases List.mem_append.1 hc with hc | hc
 ·rw [hn] at hc; exact span_mem isD s c hc
 ·rw [hb] at hc; exact span_mem isD _ c hc
theorem p24 (s : List UInt8) (hs : s.length < 9223372036854775000) : Pure Try.prog 24 [.str s] (refRes (numS s)) := by
 refine pure_shape (sh := [none]) (ls := [.str s]) (c := c24) (n := 300) (t := t24) mo ov rfl rfl (refRes_ref _) (fun Y _ => known0 _) rfl (by kernel_rfl) fun Y hf hg => ?_
 unfold t24
 refine VOK_loop (ι := Nat) (fun n => [.int .i64 (n : Int), .int .i64 (n : Int), .int .i64 (val (s.take (min n 15)) : Int)]) (fun n => n ≤ s.length ∧ span isD s = n + span isD (s.drop n)) (fun n => s.length - n) 0 ⟨Nat.zero_le _, by simp⟩ rfl (fun _ _ => rfl) (fun i j _ _ h => ?_) (fun n hn => ?_)
 ·simp at h; have h : i = j := by omega
  rw [h]
 obtain ⟨hn, hc⟩ := hn
 refine VOK_lt (run_len_str str9 s) rfl (VOK_lt (run_lss ..) rfl (VOK_ite rfl (fun hlt => ?_) (fun hlt => ?_)))
 ·have hlt : n < s.length := by simp only [decide_eq_true_eq] at hlt; omega
  have hx := span_at isD s n hlt
  refine VOK_lt (run_idx_str str9 s .i64 n hlt) rfl (VOK_call (p23 _) rfl rfl (VOK_ite rfl (fun hd => ?_) (fun hd => ?_)))
  ·rw [hd, if_pos rfl] at hx
   have hmem : ∀ c ∈ s.take (n + 1), isD c = true := fun c hc' => span_mem isD s c (by
    have : s.take (n + 1) = (s.take (span isD s)).take (n + 1) := by rw [List.take_take, Nat.min_eq_left (by omega)]
    rw [this] at hc'
    exact List.mem_of_mem_take hc')
   refine VOK_lt (run_lss ..) rfl (VOK_ite rfl (fun g15 => ?_) (fun g15 => ?_))
   ·have g15 : n < 15 := by simp only [decide_eq_true_eq] at g15; omega
    have hv := val_lt n (s.take n) (by rw [List.length_take]; omega) fun c hc' => hmem c (by
     have : s.take n = (s.take (n + 1)).take n := by rw [List.take_take, Nat.min_eq_left (by omega)]
     rw [this] at hc'
     exact List.mem_of_mem_take hc')
    have hp := pow15 (n := n) (by omega)
    have hdig := (isD_iff _).1 hd
    rw [show min n 15 = n by omega]
    refine VOK_lt (run_mul ..) rfl (VOK_lt (run_idx_str str9 s .i64 n hlt) rfl (VOK_lt (run_sub ..) rfl (VOK_lt (run_conv_ii Try.underlying5 Try.underlying2 _) rfl (VOK_lt (run_add ..) rfl (VOK_lt (run_add ..) rfl (VOK_lt (run_add ..) rfl (VOK_again rfl ⟨n + 1, ⟨hlt, by omega⟩, ?_, by omega⟩)))))))
    rw [dig_wrap hd, wrap64 (x := _ * 10) (by omega) (by omega), wrap64 (x := ((s[n].toNat - 48 : Nat) : Int)) (by omega) (by omega), wrap64 (x := (_ : Int) + ((s[n].toNat - 48 : Nat) : Int)) (by omega) (by omega), inc64 (by omega), show min (n + 1) 15 = n + 1 by omega, val_take s n hlt]
    refine congrArg (fun x => [AV.int .i64 ((n + 1 : Nat) : Int), AV.int .i64 ((n + 1 : Nat) : Int), AV.int .i64 x]) ?_
    omega
   ·have g15 : 15 ≤ n := by simp only [decide_eq_false_iff_not] at g15; omega
    refine VOK_lt (run_add ..) rfl (VOK_lt (run_add ..) rfl (VOK_again rfl ⟨n + 1, ⟨hlt, by omega⟩, ?_, by omega⟩))
    rw [inc64 (by omega), show min (n + 1) 15 = min n 15 by omega]
    rfl
  ·have hn0 : n = span isD s := by rw [hd] at hx; have : span isD (s.drop n) = 0 := hx; omega
   unfold exit24
   refine VOK_lt (run_add ..) rfl ?_
   rw [inc64 (by omega)]
   refine VOK_lt (run_len_str str9 s) rfl (VOK_lt (run_lss ..) rfl (VOK_ite rfl (fun e1 => ?_) (fun e1 => ?_)))
   ·have e1 : n + 1 < s.length := by simp only [decide_eq_true_eq] at e1; omega
    have hba := behind_at s n (by omega)
    refine VOK_lt (run_idx_str str9 s .i64 n (by omega)) rfl (VOK_lt (at_eq (n := n) (by omega) 46 46 rfl ..) rfl (VOK_ite rfl (fun e2 => ?_) (fun e2 => ?_)))
    ·rw [if_pos (of_decide_eq_true e2)] at hba
     have hsp := span_at isD s (n + 1) e1
     refine VOK_lt (run_add ..) rfl ?_
     rw [inc64 (by omega)]
     refine VOK_lt (run_idx_str str9 s .i64 (n + 1) e1) rfl (VOK_call (p23 _) rfl rfl (VOK_ite rfl (fun e3 => ?_) (fun e3 => ?_)))
     ·refine VOK_lt (run_add ..) rfl ?_
      rw [inc64 (by omega)]
      obtain ⟨b, hbe⟩ : ∃ b, b = span isD (s.drop (n + 1)) := ⟨_, rfl⟩
      have hb : behind (s.drop n) = b := by rw [hba, hbe]
      have hb0 : 0 < b := by rw [hbe, hsp, e3]; simp
      have hbl : n + 1 + b ≤ s.length := by
       have := span_le isD (s.drop (n + 1))
       rw [List.length_drop] at this
       omega
      unfold real24
      refine VOK_loop (ι := Nat) (fun j => [.int .i64 ((n + j : Nat) : Int), .int .i64 ((n + 1 + j : Nat) : Int), .flt .f64 (tensT (min j (15 - n))), .int .i64 (val ((digs s n b).take (min (n + j) 15)) : Int)])
       (fun j => j ≤ b ∧ b = j + span isD (s.drop (n + 1 + j))) (fun j => b - j) 0 ⟨Nat.zero_le _, by simpa using hbe⟩ ?_ (fun _ _ => rfl) (fun i j _ _ h => ?_) (fun j hj => ?_)
      ·show [AV.int .i64 (n : Int), AV.int .i64 ((n + 1 : Nat) : Int), AV.flt .f64 (tensT 0), AV.int .i64 (val (s.take (min n 15)) : Int)] = [AV.int .i64 (n : Int), AV.int .i64 ((n + 1 : Nat) : Int), AV.flt .f64 (tensT (min 0 (15 - n))), AV.int .i64 (val ((digs s n b).take (min n 15)) : Int)]
       rw [show min 0 (15 - n) = 0 by omega, digs_take s n b (min n 15) (by omega) (by omega)]
      ·simp at h; have h : i = j := by omega
       rw [h]
      obtain ⟨hjb, hjs⟩ := hj
      refine VOK_lt (run_len_str str9 s) rfl (VOK_lt (run_lss ..) rfl (VOK_ite rfl (fun f1 => ?_) (fun f1 => ?_)))
      ·have f1 : n + 1 + j < s.length := by simp only [decide_eq_true_eq] at f1; omega
       have hsj := span_at isD s (n + 1 + j) f1
       refine VOK_lt (run_idx_str str9 s .i64 (n + 1 + j) f1) rfl (VOK_call (p23 _) rfl rfl (VOK_ite rfl (fun f2 => ?_) (fun f2 => ?_)))
       ·rw [f2, if_pos rfl] at hsj
        have hlt : j < b := by omega
        refine VOK_lt (run_lss ..) rfl (VOK_ite rfl (fun f3 => ?_) (fun f3 => ?_))
        ·have f3 : n + j < 15 := by simp only [decide_eq_true_eq] at f3; omega
         have hdl : n + j < (digs s n b).length := by rw [digs_len s n b hbl]; omega
         have hdv : (digs s n b)[n + j] = s[n + 1 + j] := digs_at s n b j hbl hlt hdl
         have hdall := digs_dig s n b hn0 hbe
         have hv := val_lt (n + j) ((digs s n b).take (n + j)) (by rw [List.length_take]; omega) fun c hc => hdall c (List.mem_of_mem_take hc)
         have hp := pow15 (n := n + j) (by omega)
         have hdig := (isD_iff _).1 f2
         rw [show min (n + j) 15 = n + j by omega, show min j (15 - n) = j by omega]
         refine VOK_lt (run_mul ..) rfl (VOK_lt (run_idx_str str9 s .i64 (n + 1 + j) f1) rfl (VOK_lt (run_sub ..) rfl (VOK_lt (run_conv_ii Try.underlying5 Try.underlying2 _) rfl (VOK_lt (run_add ..) rfl (VOK_lt (run_tens 31 false true (by omega)) rfl (VOK_lt (run_add ..) rfl (VOK_lt (run_add ..) rfl (VOK_again rfl ⟨j + 1, ⟨hlt, ?_⟩, ?_, by omega⟩))))))))
         ·rw [show n + 1 + (j + 1) = n + 1 + j + 1 by omega]; omega
         rw [dig_wrap f2, wrap64 (x := _ * 10) (by omega) (by omega), wrap64 (x := ((s[n + 1 + j].toNat - 48 : Nat) : Int)) (by omega) (by omega), wrap64 (x := (_ : Int) + ((s[n + 1 + j].toNat - 48 : Nat) : Int)) (by omega) (by omega), inc64 (n := n + 1 + j) (by omega), inc64 (n := n + j) (by omega),
          show min (n + (j + 1)) 15 = n + j + 1 by omega, show min (j + 1) (15 - n) = j + 1 by omega, val_take _ _ hdl, hdv]
         refine congrArg (fun x => [AV.int .i64 ((n + j + 1 : Nat) : Int), AV.int .i64 ((n + 1 + j + 1 : Nat) : Int), _, AV.int .i64 x]) ?_
         omega
        ·have f3 : 15 ≤ n + j := by simp only [decide_eq_false_iff_not] at f3; omega
         refine VOK_lt (run_add ..) rfl (VOK_lt (run_add ..) rfl (VOK_again rfl ⟨j + 1, ⟨hlt, ?_⟩, ?_, by omega⟩))
         ·rw [show n + 1 + (j + 1) = n + 1 + j + 1 by omega]; omega
         rw [inc64 (n := n + 1 + j) (by omega), inc64 (n := n + j) (by omega), show min (n + (j + 1)) 15 = min (n + j) 15 by omega, show min (j + 1) (15 - n) = min j (15 - n) by omega]
         rfl
       ·rw [f2] at hsj
        have hjb' : j = b := by
         have : span isD (s.drop (n + 1 + j)) = 0 := hsj
         omega
        subst hjb'
        unfold fin24 z24
        refine VOK_lt (run_gtr ..) rfl (VOK_ite rfl (fun g1 => VOK_done ?_) (fun g1 => ?_))
        ·have g1 : 15 < n + j := by simp only [decide_eq_true_eq] at g1; omega
         have : numS s = none := by unfold numS; rw [← hn0, hb, if_pos (by omega)]
         rw [this]; rfl
        have g1 : n + j ≤ 15 := by simp only [decide_eq_false_iff_not] at g1; omega
        have hres : numS s = some (realS s j) := by unfold numS; rw [← hn0, hb, if_neg (by omega), if_pos hb0]
        rw [show min j (15 - n) = j by omega, show min (n + j) 15 = n + j by omega]
        refine VOK_lt (run_conv_if Try.underlying2 Try.underlying31 _) rfl (VOK_lt (run_quo 31 false false _ (by omega)) rfl (VOK_done ?_))
        rw [hres]
        unfold realS
        rw [← hn0]
        have : (digs s n j).take (n + j) = digs s n j := List.take_of_length_le (by rw [digs_len s n j (by omega)]; exact Nat.le_refl _)
        rw [this]; rfl
      ·have f1 : ¬ n + 1 + j < s.length := by simp only [decide_eq_false_iff_not] at f1; omega
       have hjb' : j = b := by
        rw [List.drop_eq_nil_of_le (by omega)] at hjs
        have : b = j + 0 := hjs
        omega
       subst hjb'
       unfold fin24 z24
       refine VOK_lt (run_gtr ..) rfl (VOK_ite rfl (fun g1 => VOK_done ?_) (fun g1 => ?_))
       ·have g1 : 15 < n + j := by simp only [decide_eq_true_eq] at g1; omega
        have : numS s = none := by unfold numS; rw [← hn0, hb, if_pos (by omega)]
        rw [this]; rfl
       have g1 : n + j ≤ 15 := by simp only [decide_eq_false_iff_not] at g1; omega
       have hres : numS s = some (realS s j) := by unfold numS; rw [← hn0, hb, if_neg (by omega), if_pos hb0]
       rw [show min j (15 - n) = j by omega, show min (n + j) 15 = n + j by omega]
       refine VOK_lt (run_conv_if Try.underlying2 Try.underlying31 _) rfl (VOK_lt (run_quo 31 false false _ (by omega)) rfl (VOK_done ?_))
       rw [hres]
       unfold realS
       rw [← hn0]
       have : (digs s n j).take (n + j) = digs s n j := List.take_of_length_le (by rw [digs_len s n j (by omega)]; exact Nat.le_refl _)
       rw [this]; rfl
     ·have hb : behind (s.drop n) = 0 := by rw [hba, hsp, e3]; rfl
      unfold ms24 z24 n24
      refine VOK_lt (run_gtr ..) rfl (VOK_ite rfl (fun g1 => VOK_done ?_) (fun g1 => ?_))
      ·have g1 : 15 < n := by simp only [decide_eq_true_eq] at g1; omega
       have : numS s = none := by unfold numS; rw [← hn0, if_pos (by omega)]
       rw [this]; rfl
      have g1 : n ≤ 15 := by simp only [decide_eq_false_iff_not] at g1; omega
      have hms : numS s = some (msS s) := by unfold numS; rw [← hn0, hb, if_neg (by omega), if_neg (by omega)]
      have hv : val (s.take (min n 15)) = val (s.take n) := by rw [Nat.min_eq_left g1]
      have no : isMs (s.drop n) = false → refRes (numS s) = .tup [w2 (.int .i64 (val (s.take (min n 15)) : Int)), .int .i64 (n : Int)] := fun h => by
       rw [hms, hv]; unfold msS; rw [← hn0, h]; rfl
      have yes : isMs (s.drop n) = true → refRes (numS s) = .tup [w4 (.int .i64 (val (s.take (min n 15)) : Int)), .int .i64 ((n + 2 : Nat) : Int)] := fun h => by
       rw [hms, hv]; unfold msS; rw [← hn0, h]; rfl
      refine VOK_lt (run_add ..) rfl ?_
      rw [inc64 (by omega)]
      refine VOK_lt (run_len_str str9 s) rfl (VOK_lt (run_lss ..) rfl (VOK_ite rfl (fun g2 => ?_) (fun g2 => VOK_done ?_)))
      ·have g2 : n + 1 < s.length := by simp only [decide_eq_true_eq] at g2; omega
       have hat := isMs_at s n g2
       refine VOK_lt (run_idx_str str9 s .i64 n (by omega)) rfl (VOK_lt (at_eq (n := n) (by omega) 109 109 rfl ..) rfl (VOK_ite rfl (fun g3 => ?_) (fun g3 => VOK_done ?_)))
       ·refine VOK_lt (run_add ..) rfl ?_
        rw [inc64 (by omega)]
        refine VOK_lt (run_idx_str str9 s .i64 (n + 1) g2) rfl (VOK_lt (at_eq g2 115 115 rfl ..) rfl (VOK_ite rfl (fun g4 => ?_) (fun g4 => VOK_done ?_)))
        ·refine VOK_lt (run_add ..) rfl ?_
         rw [add2 (by omega)]
         rw [g3, g4] at hat
         refine VOK_lt (run_len_str str9 s) rfl (VOK_lt (run_eql ..) rfl (VOK_ite rfl (fun g5 => VOK_lt (run_add ..) rfl (VOK_done ?_)) (fun g5 => ?_)))
         ·have g5 : n + 2 = s.length := by simp only [decide_eq_true_eq] at g5; omega
          rw [add2 (by omega)]
          refine (yes ?_).symm
          rw [hat, dif_neg (by omega)]; rfl
         ·have g5 : n + 2 < s.length := by simp only [decide_eq_false_iff_not] at g5; omega
          rw [dif_pos g5] at hat
          refine VOK_lt (run_add ..) rfl ?_
          rw [add2 (by omega)]
          refine VOK_lt (run_idx_str str9 s .i64 (n + 2) g5) rfl (VOK_call (p22 _) rfl rfl (VOK_lt (run_not ..) rfl (VOK_ite rfl (fun g6 => ?_) (fun g6 => VOK_done ?_))))
          ·refine VOK_lt (run_add ..) rfl ?_
           rw [add2 (by omega)]
           refine VOK_lt (run_idx_str str9 s .i64 (n + 2) g5) rfl (VOK_call (p23 _) rfl rfl (VOK_lt (run_not ..) rfl (VOK_ite rfl (fun g7 => VOK_lt (run_add ..) rfl (VOK_done ?_)) (fun g7 => VOK_done ?_))))
           ·rw [add2 (by omega)]
            refine (yes ?_).symm
            rw [hat]; unfold isLD
            rw [Bool.not_eq_true'] at g6 g7
            rw [g6, g7]; rfl
           ·refine (no ?_).symm
            rw [hat]; unfold isLD
            rw [Bool.not_eq_false'] at g7
            rw [g7]; simp
          ·refine (no ?_).symm
           rw [hat]; unfold isLD
           rw [Bool.not_eq_false'] at g6
           rw [g6]; simp
        ·refine (no ?_).symm
         rw [hat, g4]; simp
       ·refine (no ?_).symm
        rw [hat, g3]; simp
      ·have g2 : ¬ n + 1 < s.length := by simp only [decide_eq_false_iff_not] at g2; omega
       exact (no (isMs_short s n g2)).symm
    ·have hb : behind (s.drop n) = 0 := by rw [hba, if_neg (of_decide_eq_false e2)]
     unfold ms24 z24 n24
     refine VOK_lt (run_gtr ..) rfl (VOK_ite rfl (fun g1 => VOK_done ?_) (fun g1 => ?_))
     ·have g1 : 15 < n := by simp only [decide_eq_true_eq] at g1; omega
      have : numS s = none := by unfold numS; rw [← hn0, if_pos (by omega)]
      rw [this]; rfl
     have g1 : n ≤ 15 := by simp only [decide_eq_false_iff_not] at g1; omega
     have hms : numS s = some (msS s) := by unfold numS; rw [← hn0, hb, if_neg (by omega), if_neg (by omega)]
     have hv : val (s.take (min n 15)) = val (s.take n) := by rw [Nat.min_eq_left g1]
     have no : isMs (s.drop n) = false → refRes (numS s) = .tup [w2 (.int .i64 (val (s.take (min n 15)) : Int)), .int .i64 (n : Int)] := fun h => by
      rw [hms, hv]; unfold msS; rw [← hn0, h]; rfl
     have yes : isMs (s.drop n) = true → refRes (numS s) = .tup [w4 (.int .i64 (val (s.take (min n 15)) : Int)), .int .i64 ((n + 2 : Nat) : Int)] := fun h => by
      rw [hms, hv]; unfold msS; rw [← hn0, h]; rfl
     refine VOK_lt (run_add ..) rfl ?_
     rw [inc64 (by omega)]
     refine VOK_lt (run_len_str str9 s) rfl (VOK_lt (run_lss ..) rfl (VOK_ite rfl (fun g2 => ?_) (fun g2 => VOK_done ?_)))
     ·have g2 : n + 1 < s.length := by simp only [decide_eq_true_eq] at g2; omega
      have hat := isMs_at s n g2
      refine VOK_lt (run_idx_str str9 s .i64 n (by omega)) rfl (VOK_lt (at_eq (n := n) (by omega) 109 109 rfl ..) rfl (VOK_ite rfl (fun g3 => ?_) (fun g3 => VOK_done ?_)))
      ·refine VOK_lt (run_add ..) rfl ?_
       rw [inc64 (by omega)]
       refine VOK_lt (run_idx_str str9 s .i64 (n + 1) g2) rfl (VOK_lt (at_eq g2 115 115 rfl ..) rfl (VOK_ite rfl (fun g4 => ?_) (fun g4 => VOK_done ?_)))
       ·refine VOK_lt (run_add ..) rfl ?_
        rw [add2 (by omega)]
        rw [g3, g4] at hat
        refine VOK_lt (run_len_str str9 s) rfl (VOK_lt (run_eql ..) rfl (VOK_ite rfl (fun g5 => VOK_lt (run_add ..) rfl (VOK_done ?_)) (fun g5 => ?_)))
        ·have g5 : n + 2 = s.length := by simp only [decide_eq_true_eq] at g5; omega
         rw [add2 (by omega)]
         refine (yes ?_).symm
         rw [hat, dif_neg (by omega)]; rfl
        ·have g5 : n + 2 < s.length := by simp only [decide_eq_false_iff_not] at g5; omega
         rw [dif_pos g5] at hat
         refine VOK_lt (run_add ..) rfl ?_
         rw [add2 (by omega)]
         refine VOK_lt (run_idx_str str9 s .i64 (n + 2) g5) rfl (VOK_call (p22 _) rfl rfl (VOK_lt (run_not ..) rfl (VOK_ite rfl (fun g6 => ?_) (fun g6 => VOK_done ?_))))
         ·refine VOK_lt (run_add ..) rfl ?_
          rw [add2 (by omega)]
          refine VOK_lt (run_idx_str str9 s .i64 (n + 2) g5) rfl (VOK_call (p23 _) rfl rfl (VOK_lt (run_not ..) rfl (VOK_ite rfl (fun g7 => VOK_lt (run_add ..) rfl (VOK_done ?_)) (fun g7 => VOK_done ?_))))
          ·rw [add2 (by omega)]
           refine (yes ?_).symm
           rw [hat]; unfold isLD
           rw [Bool.not_eq_true'] at g6 g7
           rw [g6, g7]; rfl
          ·refine (no ?_).symm
           rw [hat]; unfold isLD
           rw [Bool.not_eq_false'] at g7
           rw [g7]; simp
         ·refine (no ?_).symm
          rw [hat]; unfold isLD
          rw [Bool.not_eq_false'] at g6
          rw [g6]; simp
       ·refine (no ?_).symm
        rw [hat, g4]; simp
      ·refine (no ?_).symm
       rw [hat, g3]; simp
     ·have g2 : ¬ n + 1 < s.length := by simp only [decide_eq_false_iff_not] at g2; omega
      exact (no (isMs_short s n g2)).symm
   ·have e1 : ¬ n + 1 < s.length := by simp only [decide_eq_false_iff_not] at e1; omega
    have hb := behind_short s n e1
    unfold ms24 z24 n24
    refine VOK_lt (run_gtr ..) rfl (VOK_ite rfl (fun g1 => VOK_done ?_) (fun g1 => ?_))
    ·have g1 : 15 < n := by simp only [decide_eq_true_eq] at g1; omega
     have : numS s = none := by unfold numS; rw [← hn0, if_pos (by omega)]
     rw [this]; rfl
    have g1 : n ≤ 15 := by simp only [decide_eq_false_iff_not] at g1; omega
    have hms : numS s = some (msS s) := by unfold numS; rw [← hn0, hb, if_neg (by omega), if_neg (by omega)]
    have hv : val (s.take (min n 15)) = val (s.take n) := by rw [Nat.min_eq_left g1]
    have no : isMs (s.drop n) = false → refRes (numS s) = .tup [w2 (.int .i64 (val (s.take (min n 15)) : Int)), .int .i64 (n : Int)] := fun h => by
     rw [hms, hv]; unfold msS; rw [← hn0, h]; rfl
    have yes : isMs (s.drop n) = true → refRes (numS s) = .tup [w4 (.int .i64 (val (s.take (min n 15)) : Int)), .int .i64 ((n + 2 : Nat) : Int)] := fun h => by
     rw [hms, hv]; unfold msS; rw [← hn0, h]; rfl
    refine VOK_lt (run_add ..) rfl ?_
    rw [inc64 (by omega)]
    refine VOK_lt (run_len_str str9 s) rfl (VOK_lt (run_lss ..) rfl (VOK_ite rfl (fun g2 => ?_) (fun g2 => VOK_done ?_)))
    ·have g2 : n + 1 < s.length := by simp only [decide_eq_true_eq] at g2; omega
     have hat := isMs_at s n g2
     refine VOK_lt (run_idx_str str9 s .i64 n (by omega)) rfl (VOK_lt (at_eq (n := n) (by omega) 109 109 rfl ..) rfl (VOK_ite rfl (fun g3 => ?_) (fun g3 => VOK_done ?_)))
     ·refine VOK_lt (run_add ..) rfl ?_
      rw [inc64 (by omega)]
      refine VOK_lt (run_idx_str str9 s .i64 (n + 1) g2) rfl (VOK_lt (at_eq g2 115 115 rfl ..) rfl (VOK_ite rfl (fun g4 => ?_) (fun g4 => VOK_done ?_)))
      ·refine VOK_lt (run_add ..) rfl ?_
       rw [add2 (by omega)]
       rw [g3, g4] at hat
       refine VOK_lt (run_len_str str9 s) rfl (VOK_lt (run_eql ..) rfl (VOK_ite rfl (fun g5 => VOK_lt (run_add ..) rfl (VOK_done ?_)) (fun g5 => ?_)))
       ·have g5 : n + 2 = s.length := by simp only [decide_eq_true_eq] at g5; omega
        rw [add2 (by omega)]
        refine (yes ?_).symm
        rw [hat, dif_neg (by omega)]; rfl
       ·have g5 : n + 2 < s.length := by simp only [decide_eq_false_iff_not] at g5; omega
        rw [dif_pos g5] at hat
        refine VOK_lt (run_add ..) rfl ?_
        rw [add2 (by omega)]
        refine VOK_lt (run_idx_str str9 s .i64 (n + 2) g5) rfl (VOK_call (p22 _) rfl rfl (VOK_lt (run_not ..) rfl (VOK_ite rfl (fun g6 => ?_) (fun g6 => VOK_done ?_))))
        ·refine VOK_lt (run_add ..) rfl ?_
         rw [add2 (by omega)]
         refine VOK_lt (run_idx_str str9 s .i64 (n + 2) g5) rfl (VOK_call (p23 _) rfl rfl (VOK_lt (run_not ..) rfl (VOK_ite rfl (fun g7 => VOK_lt (run_add ..) rfl (VOK_done ?_)) (fun g7 => VOK_done ?_))))
         ·rw [add2 (by omega)]
          refine (yes ?_).symm
          rw [hat]; unfold isLD
          rw [Bool.not_eq_true'] at g6 g7
          rw [g6, g7]; rfl
         ·refine (no ?_).symm
          rw [hat]; unfold isLD
          rw [Bool.not_eq_false'] at g7
          rw [g7]; simp
        ·refine (no ?_).symm
         rw [hat]; unfold isLD
         rw [Bool.not_eq_false'] at g6
         rw [g6]; simp
      ·refine (no ?_).symm
       rw [hat, g4]; simp
     ·refine (no ?_).symm
      rw [hat, g3]; simp
    ·have g2 : ¬ n + 1 < s.length := by simp only [decide_eq_false_iff_not] at g2; omega
     exact (no (isMs_short s n g2)).symm
 ·have hlt : ¬ n < s.length := by simp only [decide_eq_false_iff_not] at hlt; omega
  have hn0 : n = span isD s := by rw [List.drop_eq_nil_of_le (by omega)] at hc; exact hc.symm
  unfold exit24
  refine VOK_lt (run_add ..) rfl ?_
  rw [inc64 (by omega)]
  refine VOK_lt (run_len_str str9 s) rfl (VOK_lt (run_lss ..) rfl (VOK_ite rfl (fun e1 => ?_) (fun e1 => ?_)))
  ·have e1 : n + 1 < s.length := by simp only [decide_eq_true_eq] at e1; omega
   have hba := behind_at s n (by omega)
   refine VOK_lt (run_idx_str str9 s .i64 n (by omega)) rfl (VOK_lt (at_eq (n := n) (by omega) 46 46 rfl ..) rfl (VOK_ite rfl (fun e2 => ?_) (fun e2 => ?_)))
   ·rw [if_pos (of_decide_eq_true e2)] at hba
    have hsp := span_at isD s (n + 1) e1
    refine VOK_lt (run_add ..) rfl ?_
    rw [inc64 (by omega)]
    refine VOK_lt (run_idx_str str9 s .i64 (n + 1) e1) rfl (VOK_call (p23 _) rfl rfl (VOK_ite rfl (fun e3 => ?_) (fun e3 => ?_)))
    ·refine VOK_lt (run_add ..) rfl ?_
     rw [inc64 (by omega)]
     obtain ⟨b, hbe⟩ : ∃ b, b = span isD (s.drop (n + 1)) := ⟨_, rfl⟩
     have hb : behind (s.drop n) = b := by rw [hba, hbe]
     have hb0 : 0 < b := by rw [hbe, hsp, e3]; simp
     have hbl : n + 1 + b ≤ s.length := by
      have := span_le isD (s.drop (n + 1))
      rw [List.length_drop] at this
      omega
     unfold real24
     refine VOK_loop (ι := Nat) (fun j => [.int .i64 ((n + j : Nat) : Int), .int .i64 ((n + 1 + j : Nat) : Int), .flt .f64 (tensT (min j (15 - n))), .int .i64 (val ((digs s n b).take (min (n + j) 15)) : Int)])
      (fun j => j ≤ b ∧ b = j + span isD (s.drop (n + 1 + j))) (fun j => b - j) 0 ⟨Nat.zero_le _, by simpa using hbe⟩ ?_ (fun _ _ => rfl) (fun i j _ _ h => ?_) (fun j hj => ?_)
     ·show [AV.int .i64 (n : Int), AV.int .i64 ((n + 1 : Nat) : Int), AV.flt .f64 (tensT 0), AV.int .i64 (val (s.take (min n 15)) : Int)] = [AV.int .i64 (n : Int), AV.int .i64 ((n + 1 : Nat) : Int), AV.flt .f64 (tensT (min 0 (15 - n))), AV.int .i64 (val ((digs s n b).take (min n 15)) : Int)]
      rw [show min 0 (15 - n) = 0 by omega, digs_take s n b (min n 15) (by omega) (by omega)]
     ·simp at h; have h : i = j := by omega
      rw [h]
     obtain ⟨hjb, hjs⟩ := hj
     refine VOK_lt (run_len_str str9 s) rfl (VOK_lt (run_lss ..) rfl (VOK_ite rfl (fun f1 => ?_) (fun f1 => ?_)))
     ·have f1 : n + 1 + j < s.length := by simp only [decide_eq_true_eq] at f1; omega
      have hsj := span_at isD s (n + 1 + j) f1
      refine VOK_lt (run_idx_str str9 s .i64 (n + 1 + j) f1) rfl (VOK_call (p23 _) rfl rfl (VOK_ite rfl (fun f2 => ?_) (fun f2 => ?_)))
      ·rw [f2, if_pos rfl] at hsj
       have hlt : j < b := by omega
       refine VOK_lt (run_lss ..) rfl (VOK_ite rfl (fun f3 => ?_) (fun f3 => ?_))
       ·have f3 : n + j < 15 := by simp only [decide_eq_true_eq] at f3; omega
        have hdl : n + j < (digs s n b).length := by rw [digs_len s n b hbl]; omega
        have hdv : (digs s n b)[n + j] = s[n + 1 + j] := digs_at s n b j hbl hlt hdl
        have hdall := digs_dig s n b hn0 hbe
        have hv := val_lt (n + j) ((digs s n b).take (n + j)) (by rw [List.length_take]; omega) fun c hc => hdall c (List.mem_of_mem_take hc)
        have hp := pow15 (n := n + j) (by omega)
        have hdig := (isD_iff _).1 f2
        rw [show min (n + j) 15 = n + j by omega, show min j (15 - n) = j by omega]
        refine VOK_lt (run_mul ..) rfl (VOK_lt (run_idx_str str9 s .i64 (n + 1 + j) f1) rfl (VOK_lt (run_sub ..) rfl (VOK_lt (run_conv_ii Try.underlying5 Try.underlying2 _) rfl (VOK_lt (run_add ..) rfl (VOK_lt (run_tens 31 false true (by omega)) rfl (VOK_lt (run_add ..) rfl (VOK_lt (run_add ..) rfl (VOK_again rfl ⟨j + 1, ⟨hlt, ?_⟩, ?_, by omega⟩))))))))
        ·rw [show n + 1 + (j + 1) = n + 1 + j + 1 by omega]; omega
        rw [dig_wrap f2, wrap64 (x := _ * 10) (by omega) (by omega), wrap64 (x := ((s[n + 1 + j].toNat - 48 : Nat) : Int)) (by omega) (by omega), wrap64 (x := (_ : Int) + ((s[n + 1 + j].toNat - 48 : Nat) : Int)) (by omega) (by omega), inc64 (n := n + 1 + j) (by omega), inc64 (n := n + j) (by omega),
         show min (n + (j + 1)) 15 = n + j + 1 by omega, show min (j + 1) (15 - n) = j + 1 by omega, val_take _ _ hdl, hdv]
        refine congrArg (fun x => [AV.int .i64 ((n + j + 1 : Nat) : Int), AV.int .i64 ((n + 1 + j + 1 : Nat) : Int), _, AV.int .i64 x]) ?_
        omega
       ·have f3 : 15 ≤ n + j := by simp only [decide_eq_false_iff_not] at f3; omega
        refine VOK_lt (run_add ..) rfl (VOK_lt (run_add ..) rfl (VOK_again rfl ⟨j + 1, ⟨hlt, ?_⟩, ?_, by omega⟩))
        ·rw [show n + 1 + (j + 1) = n + 1 + j + 1 by omega]; omega
        rw [inc64 (n := n + 1 + j) (by omega), inc64 (n := n + j) (by omega), show min (n + (j + 1)) 15 = min (n + j) 15 by omega, show min (j + 1) (15 - n) = min j (15 - n) by omega]
        rfl
      ·rw [f2] at hsj
       have hjb' : j = b := by
        have : span isD (s.drop (n + 1 + j)) = 0 := hsj
        omega
       subst hjb'
       unfold fin24 z24
       refine VOK_lt (run_gtr ..) rfl (VOK_ite rfl (fun g1 => VOK_done ?_) (fun g1 => ?_))
       ·have g1 : 15 < n + j := by simp only [decide_eq_true_eq] at g1; omega
        have : numS s = none := by unfold numS; rw [← hn0, hb, if_pos (by omega)]
        rw [this]; rfl
       have g1 : n + j ≤ 15 := by simp only [decide_eq_false_iff_not] at g1; omega
       have hres : numS s = some (realS s j) := by unfold numS; rw [← hn0, hb, if_neg (by omega), if_pos hb0]
       rw [show min j (15 - n) = j by omega, show min (n + j) 15 = n + j by omega]
       refine VOK_lt (run_conv_if Try.underlying2 Try.underlying31 _) rfl (VOK_lt (run_quo 31 false false _ (by omega)) rfl (VOK_done ?_))
       rw [hres]
       unfold realS
       rw [← hn0]
       have : (digs s n j).take (n + j) = digs s n j := List.take_of_length_le (by rw [digs_len s n j (by omega)]; exact Nat.le_refl _)
       rw [this]; rfl
     ·have f1 : ¬ n + 1 + j < s.length := by simp only [decide_eq_false_iff_not] at f1; omega
      have hjb' : j = b := by
       rw [List.drop_eq_nil_of_le (by omega)] at hjs
       have : b = j + 0 := hjs
       omega
      subst hjb'
      unfold fin24 z24
      refine VOK_lt (run_gtr ..) rfl (VOK_ite rfl (fun g1 => VOK_done ?_) (fun g1 => ?_))
      ·have g1 : 15 < n + j := by simp only [decide_eq_true_eq] at g1; omega
       have : numS s = none := by unfold numS; rw [← hn0, hb, if_pos (by omega)]
       rw [this]; rfl
      have g1 : n + j ≤ 15 := by simp only [decide_eq_false_iff_not] at g1; omega
      have hres : numS s = some (realS s j) := by unfold numS; rw [← hn0, hb, if_neg (by omega), if_pos hb0]
      rw [show min j (15 - n) = j by omega, show min (n + j) 15 = n + j by omega]
      refine VOK_lt (run_conv_if Try.underlying2 Try.underlying31 _) rfl (VOK_lt (run_quo 31 false false _ (by omega)) rfl (VOK_done ?_))
      rw [hres]
      unfold realS
      rw [← hn0]
      have : (digs s n j).take (n + j) = digs s n j := List.take_of_length_le (by rw [digs_len s n j (by omega)]; exact Nat.le_refl _)
      rw [this]; rfl
    ·have hb : behind (s.drop n) = 0 := by rw [hba, hsp, e3]; rfl
     unfold ms24 z24 n24
     refine VOK_lt (run_gtr ..) rfl (VOK_ite rfl (fun g1 => VOK_done ?_) (fun g1 => ?_))
     ·have g1 : 15 < n := by simp only [decide_eq_true_eq] at g1; omega
      have : numS s = none := by unfold numS; rw [← hn0, if_pos (by omega)]
      rw [this]; rfl
     have g1 : n ≤ 15 := by simp only [decide_eq_false_iff_not] at g1; omega
     have hms : numS s = some (msS s) := by unfold numS; rw [← hn0, hb, if_neg (by omega), if_neg (by omega)]
     have hv : val (s.take (min n 15)) = val (s.take n) := by rw [Nat.min_eq_left g1]
     have no : isMs (s.drop n) = false → refRes (numS s) = .tup [w2 (.int .i64 (val (s.take (min n 15)) : Int)), .int .i64 (n : Int)] := fun h => by
      rw [hms, hv]; unfold msS; rw [← hn0, h]; rfl
     have yes : isMs (s.drop n) = true → refRes (numS s) = .tup [w4 (.int .i64 (val (s.take (min n 15)) : Int)), .int .i64 ((n + 2 : Nat) : Int)] := fun h => by
      rw [hms, hv]; unfold msS; rw [← hn0, h]; rfl
     refine VOK_lt (run_add ..) rfl ?_
     rw [inc64 (by omega)]
     refine VOK_lt (run_len_str str9 s) rfl (VOK_lt (run_lss ..) rfl (VOK_ite rfl (fun g2 => ?_) (fun g2 => VOK_done ?_)))
     ·have g2 : n + 1 < s.length := by simp only [decide_eq_true_eq] at g2; omega
      have hat := isMs_at s n g2
      refine VOK_lt (run_idx_str str9 s .i64 n (by omega)) rfl (VOK_lt (at_eq (n := n) (by omega) 109 109 rfl ..) rfl (VOK_ite rfl (fun g3 => ?_) (fun g3 => VOK_done ?_)))
      ·refine VOK_lt (run_add ..) rfl ?_
       rw [inc64 (by omega)]
       refine VOK_lt (run_idx_str str9 s .i64 (n + 1) g2) rfl (VOK_lt (at_eq g2 115 115 rfl ..) rfl (VOK_ite rfl (fun g4 => ?_) (fun g4 => VOK_done ?_)))
       ·refine VOK_lt (run_add ..) rfl ?_
        rw [add2 (by omega)]
        rw [g3, g4] at hat
        refine VOK_lt (run_len_str str9 s) rfl (VOK_lt (run_eql ..) rfl (VOK_ite rfl (fun g5 => VOK_lt (run_add ..) rfl (VOK_done ?_)) (fun g5 => ?_)))
        ·have g5 : n + 2 = s.length := by simp only [decide_eq_true_eq] at g5; omega
         rw [add2 (by omega)]
         refine (yes ?_).symm
         rw [hat, dif_neg (by omega)]; rfl
        ·have g5 : n + 2 < s.length := by simp only [decide_eq_false_iff_not] at g5; omega
         rw [dif_pos g5] at hat
         refine VOK_lt (run_add ..) rfl ?_
         rw [add2 (by omega)]
         refine VOK_lt (run_idx_str str9 s .i64 (n + 2) g5) rfl (VOK_call (p22 _) rfl rfl (VOK_lt (run_not ..) rfl (VOK_ite rfl (fun g6 => ?_) (fun g6 => VOK_done ?_))))
         ·refine VOK_lt (run_add ..) rfl ?_
          rw [add2 (by omega)]
          refine VOK_lt (run_idx_str str9 s .i64 (n + 2) g5) rfl (VOK_call (p23 _) rfl rfl (VOK_lt (run_not ..) rfl (VOK_ite rfl (fun g7 => VOK_lt (run_add ..) rfl (VOK_done ?_)) (fun g7 => VOK_done ?_))))
          ·rw [add2 (by omega)]
           refine (yes ?_).symm
           rw [hat]; unfold isLD
           rw [Bool.not_eq_true'] at g6 g7
           rw [g6, g7]; rfl
          ·refine (no ?_).symm
           rw [hat]; unfold isLD
           rw [Bool.not_eq_false'] at g7
           rw [g7]; simp
         ·refine (no ?_).symm
          rw [hat]; unfold isLD
          rw [Bool.not_eq_false'] at g6
          rw [g6]; simp
       ·refine (no ?_).symm
        rw [hat, g4]; simp
      ·refine (no ?_).symm
       rw [hat, g3]; simp
     ·have g2 : ¬ n + 1 < s.length := by simp only [decide_eq_false_iff_not] at g2; omega
      exact (no (isMs_short s n g2)).symm
   ·have hb : behind (s.drop n) = 0 := by rw [hba, if_neg (of_decide_eq_false e2)]
    unfold ms24 z24 n24
    refine VOK_lt (run_gtr ..) rfl (VOK_ite rfl (fun g1 => VOK_done ?_) (fun g1 => ?_))
    ·have g1 : 15 < n := by simp only [decide_eq_true_eq] at g1; omega
     have : numS s = none := by unfold numS; rw [← hn0, if_pos (by omega)]
     rw [this]; rfl
    have g1 : n ≤ 15 := by simp only [decide_eq_false_iff_not] at g1; omega
    have hms : numS s = some (msS s) := by unfold numS; rw [← hn0, hb, if_neg (by omega), if_neg (by omega)]
    have hv : val (s.take (min n 15)) = val (s.take n) := by rw [Nat.min_eq_left g1]
    have no : isMs (s.drop n) = false → refRes (numS s) = .tup [w2 (.int .i64 (val (s.take (min n 15)) : Int)), .int .i64 (n : Int)] := fun h => by
     rw [hms, hv]; unfold msS; rw [← hn0, h]; rfl
    have yes : isMs (s.drop n) = true → refRes (numS s) = .tup [w4 (.int .i64 (val (s.take (min n 15)) : Int)), .int .i64 ((n + 2 : Nat) : Int)] := fun h => by
     rw [hms, hv]; unfold msS; rw [← hn0, h]; rfl
    refine VOK_lt (run_add ..) rfl ?_
    rw [inc64 (by omega)]
    refine VOK_lt (run_len_str str9 s) rfl (VOK_lt (run_lss ..) rfl (VOK_ite rfl (fun g2 => ?_) (fun g2 => VOK_done ?_)))
    ·have g2 : n + 1 < s.length := by simp only [decide_eq_true_eq] at g2; omega
     have hat := isMs_at s n g2
     refine VOK_lt (run_idx_str str9 s .i64 n (by omega)) rfl (VOK_lt (at_eq (n := n) (by omega) 109 109 rfl ..) rfl (VOK_ite rfl (fun g3 => ?_) (fun g3 => VOK_done ?_)))
     ·refine VOK_lt (run_add ..) rfl ?_
      rw [inc64 (by omega)]
      refine VOK_lt (run_idx_str str9 s .i64 (n + 1) g2) rfl (VOK_lt (at_eq g2 115 115 rfl ..) rfl (VOK_ite rfl (fun g4 => ?_) (fun g4 => VOK_done ?_)))
      ·refine VOK_lt (run_add ..) rfl ?_
       rw [add2 (by omega)]
       rw [g3, g4] at hat
       refine VOK_lt (run_len_str str9 s) rfl (VOK_lt (run_eql ..) rfl (VOK_ite rfl (fun g5 => VOK_lt (run_add ..) rfl (VOK_done ?_)) (fun g5 => ?_)))
       ·have g5 : n + 2 = s.length := by simp only [decide_eq_true_eq] at g5; omega
        rw [add2 (by omega)]
        refine (yes ?_).symm
        rw [hat, dif_neg (by omega)]; rfl
       ·have g5 : n + 2 < s.length := by simp only [decide_eq_false_iff_not] at g5; omega
        rw [dif_pos g5] at hat
        refine VOK_lt (run_add ..) rfl ?_
        rw [add2 (by omega)]
        refine VOK_lt (run_idx_str str9 s .i64 (n + 2) g5) rfl (VOK_call (p22 _) rfl rfl (VOK_lt (run_not ..) rfl (VOK_ite rfl (fun g6 => ?_) (fun g6 => VOK_done ?_))))
        ·refine VOK_lt (run_add ..) rfl ?_
         rw [add2 (by omega)]
         refine VOK_lt (run_idx_str str9 s .i64 (n + 2) g5) rfl (VOK_call (p23 _) rfl rfl (VOK_lt (run_not ..) rfl (VOK_ite rfl (fun g7 => VOK_lt (run_add ..) rfl (VOK_done ?_)) (fun g7 => VOK_done ?_))))
         ·rw [add2 (by omega)]
          refine (yes ?_).symm
          rw [hat]; unfold isLD
          rw [Bool.not_eq_true'] at g6 g7
          rw [g6, g7]; rfl
         ·refine (no ?_).symm
          rw [hat]; unfold isLD
          rw [Bool.not_eq_false'] at g7
          rw [g7]; simp
        ·refine (no ?_).symm
         rw [hat]; unfold isLD
         rw [Bool.not_eq_false'] at g6
         rw [g6]; simp
      ·refine (no ?_).symm
       rw [hat, g4]; simp
     ·refine (no ?_).symm
      rw [hat, g3]; simp
    ·have g2 : ¬ n + 1 < s.length := by simp only [decide_eq_false_iff_not] at g2; omega
     exact (no (isMs_short s n g2)).symm
  ·have e1 : ¬ n + 1 < s.length := by simp only [decide_eq_false_iff_not] at e1; omega
   have hb := behind_short s n e1
   unfold ms24 z24 n24
   refine VOK_lt (run_gtr ..) rfl (VOK_ite rfl (fun g1 => VOK_done ?_) (fun g1 => ?_))
   ·have g1 : 15 < n := by simp only [decide_eq_true_eq] at g1; omega
    have : numS s = none := by unfold numS; rw [← hn0, if_pos (by omega)]
    rw [this]; rfl
   have g1 : n ≤ 15 := by simp only [decide_eq_false_iff_not] at g1; omega
   have hms : numS s = some (msS s) := by unfold numS; rw [← hn0, hb, if_neg (by omega), if_neg (by omega)]
   have hv : val (s.take (min n 15)) = val (s.take n) := by rw [Nat.min_eq_left g1]
   have no : isMs (s.drop n) = false → refRes (numS s) = .tup [w2 (.int .i64 (val (s.take (min n 15)) : Int)), .int .i64 (n : Int)] := fun h => by
    rw [hms, hv]; unfold msS; rw [← hn0, h]; rfl
   have yes : isMs (s.drop n) = true → refRes (numS s) = .tup [w4 (.int .i64 (val (s.take (min n 15)) : Int)), .int .i64 ((n + 2 : Nat) : Int)] := fun h => by
    rw [hms, hv]; unfold msS; rw [← hn0, h]; rfl
   refine VOK_lt (run_add ..) rfl ?_
   rw [inc64 (by omega)]
   refine VOK_lt (run_len_str str9 s) rfl (VOK_lt (run_lss ..) rfl (VOK_ite rfl (fun g2 => ?_) (fun g2 => VOK_done ?_)))
   ·have g2 : n + 1 < s.length := by simp only [decide_eq_true_eq] at g2; omega
    have hat := isMs_at s n g2
    refine VOK_lt (run_idx_str str9 s .i64 n (by omega)) rfl (VOK_lt (at_eq (n := n) (by omega) 109 109 rfl ..) rfl (VOK_ite rfl (fun g3 => ?_) (fun g3 => VOK_done ?_)))
    ·refine VOK_lt (run_add ..) rfl ?_
     rw [inc64 (by omega)]
     refine VOK_lt (run_idx_str str9 s .i64 (n + 1) g2) rfl (VOK_lt (at_eq g2 115 115 rfl ..) rfl (VOK_ite rfl (fun g4 => ?_) (fun g4 => VOK_done ?_)))
     ·refine VOK_lt (run_add ..) rfl ?_
      rw [add2 (by omega)]
      rw [g3, g4] at hat
      refine VOK_lt (run_len_str str9 s) rfl (VOK_lt (run_eql ..) rfl (VOK_ite rfl (fun g5 => VOK_lt (run_add ..) rfl (VOK_done ?_)) (fun g5 => ?_)))
      ·have g5 : n + 2 = s.length := by simp only [decide_eq_true_eq] at g5; omega
       rw [add2 (by omega)]
       refine (yes ?_).symm
       rw [hat, dif_neg (by omega)]; rfl
      ·have g5 : n + 2 < s.length := by simp only [decide_eq_false_iff_not] at g5; omega
       rw [dif_pos g5] at hat
       refine VOK_lt (run_add ..) rfl ?_
       rw [add2 (by omega)]
       refine VOK_lt (run_idx_str str9 s .i64 (n + 2) g5) rfl (VOK_call (p22 _) rfl rfl (VOK_lt (run_not ..) rfl (VOK_ite rfl (fun g6 => ?_) (fun g6 => VOK_done ?_))))
       ·refine VOK_lt (run_add ..) rfl ?_
        rw [add2 (by omega)]
        refine VOK_lt (run_idx_str str9 s .i64 (n + 2) g5) rfl (VOK_call (p23 _) rfl rfl (VOK_lt (run_not ..) rfl (VOK_ite rfl (fun g7 => VOK_lt (run_add ..) rfl (VOK_done ?_)) (fun g7 => VOK_done ?_))))
        ·rw [add2 (by omega)]
         refine (yes ?_).symm
         rw [hat]; unfold isLD
         rw [Bool.not_eq_true'] at g6 g7
         rw [g6, g7]; rfl
        ·refine (no ?_).symm
         rw [hat]; unfold isLD
         rw [Bool.not_eq_false'] at g7
         rw [g7]; simp
       ·refine (no ?_).symm
        rw [hat]; unfold isLD
        rw [Bool.not_eq_false'] at g6
        rw [g6]; simp
     ·refine (no ?_).symm
      rw [hat, g4]; simp
    ·refine (no ?_).symm
     rw [hat, g3]; simp
   ·have g2 : ¬ n + 1 < s.length := by simp only [decide_eq_false_iff_not] at g2; omega
    exact (no (isMs_short s n g2)).symm
end Go.Proofs.Ytmhcemkembijeaa.vars
set_option maxRecDepth 100000
set_option linter.unusedVariables false
set_option linter.unusedSimpArgs false
namespace Go.Proofs.Ytmhcemkembijeaa.vars
open Go Go.Sx
def twoT : AV := .vsl 4 1 [.str [58, 61], .str [60, 62], .str [60, 61], .str [62, 61]]
def name12 : VT :=
 (.loop 67 0 [.int .i64 0]
  (.cons 1
  (.lt (.len 9) [.sym 64] 68 none
  (.lt (.bin .lss 3 false false) [.sym 67, .sym 68] 69 none
  (.ite 69
   (.lt (.idx 9) [.sym 64, .sym 67] 70 none
   (.call 22 [.sym 70] 71 [none]
   (.ite 71
    (.lt (.bin .add 3 false true) [.sym 67, .int .i64 1] 72 none
    (.again 0 0 [.sym 72]))
    (.lt (.idx 9) [.sym 64, .sym 67] 72 none
    (.call 23 [.sym 72] 73 [none]
    (.ite 73
     (.lt (.bin .add 3 false true) [.sym 67, .int .i64 1] 74 none
     (.again 0 0 [.sym 74]))
     (.lt (.slc 9 false true) [.sym 64, .sym 67] 74 none
     (.done (.tup [.agg [.int .i64 1, .sym 74, .int .i64 0, .flt .f64 0, .int .i64 0], .sym 67])))))))))
   (.lt (.slc 9 false true) [.sym 64, .sym 67] 70 none
   (.done (.tup [.agg [.int .i64 1, .sym 70, .int .i64 0, .flt .f64 0, .int .i64 0], .sym 67]))))))
  .nil))
def one12 : VT :=
     (.loop 73 0 [.int .i64 0]
      (.cons 1
      (.lt (.bin .lss 3 false false) [.sym 73, .int .i64 15] 74 none
      (.ite 74
       (.lt (.idx 9) [.str marksT, .sym 73] 75 none
       (.lt (.idx 9) [.sym 64, .int .i64 0] 76 none
       (.lt (.bin .eql 5 false false) [.sym 75, .sym 76] 77 none
       (.ite 77
        (.lt (.slc 9 false true) [.sym 64, .int .i64 1] 78 none
        (.done (.tup [.agg [.int .i64 5, .sym 78, .int .i64 0, .flt .f64 0, .int .i64 0], .int .i64 1])))
        (.lt (.bin .add 3 false true) [.sym 73, .int .i64 1] 78 none
        (.again 1 0 [.sym 78]))))))
       (.done (.tup [.agg [.int .i64 0, .str [], .int .i64 0, .flt .f64 0, .int .i64 0], .int .i64 0]))))
      .nil))
def mark12 : VT :=
 (.loop 69 0 [.int .i64 0, twoT]
  (.cons 2
  (.lt (.len 24) [.sym 70] 71 none
  (.lt (.bin .lss 3 false false) [.sym 69, .sym 71] 72 none
  (.ite 72
   (.lt (.len 9) [.sym 64] 73 none
   (.lt (.bin .gtr 3 false true) [.sym 73, .int .i64 1] 74 none
   (.ite 74
    (.lt (.slc 9 false true) [.sym 64, .int .i64 2] 75 none
    (.lt (.iaddr 24) [.sym 70, .sym 69] 76 none
    (.lt (.load 9) [.sym 76] 77 none
    (.lt (.bin .eql 9 false false) [.sym 75, .sym 77] 78 none
    (.ite 78
     (.lt (.iaddr 24) [.sym 70, .sym 69] 79 none
     (.lt (.load 9) [.sym 79] 80 none
     (.done (.tup [.agg [.int .i64 5, .sym 80, .int .i64 0, .flt .f64 0, .int .i64 0], .int .i64 2]))))
     (.lt (.bin .add 3 false true) [.sym 69, .int .i64 1] 79 none
     (.again 0 0 [.sym 79, .sym 70])))))))
    (.lt (.bin .add 3 false true) [.sym 69, .int .i64 1] 75 none
    (.again 0 0 [.sym 75, .sym 70])))))
   one12)))
  .nil))
def c12 : VC := ⟨⟨[], []⟩, [(22, [none]), (23, [none]), (24, [(some 5), none])], [(0, [⟨[(4, .slx 0 0 0), (0, 64), (2, .ptr 0 0)], [(0, [J 0, .str [], J 0, .flt .f64 0, J 0])], 1, 1, [], [], []⟩]), (2, [⟨[(2, .ptr 0 0), (6, .slx 0 0 0), (5, .slx 1 0 0), (0, 64)], [(0, [J 0, .str [], J 0, .flt .f64 0, J 0])], 1, 2, [], [], []⟩]), (4, [⟨[(2, .ptr 0 0), (0, 64), (8, .slx 0 0 0), (7, .str [59, 58, 44, 40, 41, 91, 93, 43, 45, 42, 47, 61, 60, 62, 46])], [(0, [J 0, .str [], J 0, .flt .f64 0, J 0])], 1, 1, [], [], []⟩])], 0, false, []⟩
def t12 : VT :=
 (.lt (.idx 9) [64, J 0] 65 none
 (.call 22 [65] 66 [none]
 (.ite 66
 name12
 (.lt (.idx 9) [64, J 0] 67 none
 (.call 23 [67] 68 [none]
 (.ite 68
 (.call 24 [64] 69 [(some 5), none]
 (.done (.tup [.agg [69, 70, 71, 72, 73], 74])))
 mark12))))))
def two (i : Nat) : List UInt8 := match i with
 | 0 => [58, 61]
 | 1 => [60, 62]
 | 2 => [60, 61]
 | _ => [62, 61]
theorem pair_two (a b : UInt8) : isPair a b = true ↔ ∃ i, i < 4 ∧ [a, b] = two i := by
 unfold isPair
 simp only [Bool.or_eq_true, decide_eq_true_eq]
 constructor
 ·rintro ((⟨rfl, rfl⟩ | ⟨rfl, rfl⟩) | (⟨rfl, rfl⟩ | ⟨rfl, rfl⟩))
  ·exact ⟨0, by omega, rfl⟩
  ·exact ⟨1, by omega, rfl⟩
  ·exact ⟨2, by omega, rfl⟩
  ·exact ⟨3, by omega, rfl⟩
 ·rintro ⟨i, hi, h⟩
  rcases (by omega : i = 0 ∨ i = 1 ∨ i = 2 ∨ i = 3) with rfl | rfl | rfl | rfl <;> (simp only [two, List.cons.injEq, and_true] at h; simp [h])
theorem iaddr_two (i : Nat) (h : i < 4) : (XOp.iaddr 24).run Try.prog [twoT, .int .i64 (i : Int)] = some (.vptr ([AV.str [58, 61], .str [60, 62], .str [60, 61], .str [62, 61]].drop i)) := by
 rcases (by omega : i = 0 ∨ i = 1 ∨ i = 2 ∨ i = 3) with rfl | rfl | rfl | rfl <;> kernel_rfl
theorem load_two (i : Nat) (h : i < 4) : (XOp.load 9).run Try.prog [.vptr ([AV.str [58, 61], .str [60, 62], .str [60, 61], .str [62, 61]].drop i)] = some (.str (two i)) := by
 rcases (by omega : i = 0 ∨ i = 1 ∨ i = 2 ∨ i = 3) with rfl | rfl | rfl | rfl <;> kernel_rfl
theorem len_two : (XOp.len 24).run Try.prog [twoT] = some (.int .i64 4) := by kernel_rfl
theorem ok_two (i : Nat) : okC (.vptr ([AV.str [58, 61], .str [60, 62], .str [60, 61], .str [62, 61]].drop i)) = true := by
 rcases i with _ | _ | _ | _ | i <;> first | rfl | (rw [List.drop_eq_nil_of_le (by simp)]; rfl)
theorem mark_two (a b : UInt8) (t : List UInt8) (i : Nat) (h : i < 4) (he : [a, b] = two i) : markS (a :: b :: t) = two i := by
 have : isPair a b = true := (pair_two a b).2 ⟨i, h, he⟩
 simp only [markS, this, reduceIte, he]
theorem two_len (i : Nat) : (two i).length = 2 := by
 unfold two; split <;> rfl
theorem p12 (a : UInt8) (r : List UInt8) (hs : (a :: r).length < 4294967281) : Pure Try.prog 12 [.str (a :: r)] (refRes (oneS (a :: r))) := by
 refine pure_shape (sh := [none]) (ls := [.str (a :: r)]) (c := c12) (n := 300) (t := t12) mo ov rfl rfl (refRes_ref _) (fun Y _ => known0 _) rfl (by kernel_rfl) fun Y hf hg => ?_
 unfold t12
 have h0 : 0 < (a :: r).length := by simp
 have h1 : 1 ≤ (a :: r).length := by simp
 refine VOK_lt (run_idx_str str9 (a :: r) .i64 0 h0) rfl (VOK_call (p22 a) rfl rfl (VOK_ite rfl (fun hL => ?_) (fun hL => ?_)))
 ·have e : refRes (oneS (a :: r)) = .tup [.agg (encW ⟨1, (a :: r).take (span isLD (a :: r)), 0, 0, 0⟩), .int .i64 (span isLD (a :: r) : Int)] := by
    unfold oneS
    simp only [hL, reduceIte]; rfl
  rw [e]
  clear e
  generalize a :: r = s at *
  unfold name12
  refine VOK_loop (ι := Nat) (fun n => [.int .i64 (n : Int)]) (fun n => n ≤ s.length ∧ span isLD s = n + span isLD (s.drop n)) (fun n => s.length - n) 0 ⟨Nat.zero_le _, by simp⟩ rfl (fun _ _ => rfl) (fun i j _ _ h => ?_) (fun n hn => ?_)
  ·simp at h; have h : i = j := by omega
   rw [h]
  obtain ⟨hn, hc⟩ := hn
  refine VOK_lt (run_len_str str9 s) rfl (VOK_lt (run_lss ..) rfl (VOK_ite rfl (fun hlt => ?_) (fun hlt => ?_)))
  ·have hlt : n < s.length := by simp only [decide_eq_true_eq] at hlt; omega
   have hx := span_at isLD s n hlt
   have hyes : isLD s[n] = true → span isLD s = n + 1 + span isLD (s.drop (n + 1)) := fun h => by rw [hc, hx, h]; simp; omega
   refine VOK_lt (run_idx_str str9 s .i64 n hlt) rfl (VOK_call (p22 _) rfl rfl (VOK_ite rfl (fun h => VOK_lt (run_add ..) rfl (VOK_again rfl ⟨n + 1, ⟨hlt, hyes (by unfold isLD; rw [h]; rfl)⟩, congrArg (fun x => [AV.int .i64 x]) (inc64 (by omega)), by omega⟩)) (fun h => ?_)))
   refine VOK_lt (run_idx_str str9 s .i64 n hlt) rfl (VOK_call (p23 _) rfl rfl (VOK_ite rfl (fun h' => VOK_lt (run_add ..) rfl (VOK_again rfl ⟨n + 1, ⟨hlt, hyes (by unfold isLD; rw [h, h']; rfl)⟩, congrArg (fun x => [AV.int .i64 x]) (inc64 (by omega)), by omega⟩)) (fun h' => ?_)))
   have hno : isLD s[n] = false := by unfold isLD; rw [h, h']; rfl
   rw [hno] at hx
   have hx : span isLD (s.drop n) = 0 := hx
   refine VOK_lt (run_slc01_str str9 s .i64 n hn) rfl (VOK_done ?_)
   rw [hc, hx]; rfl
  ·have hlt : ¬ n < s.length := by simp only [decide_eq_false_iff_not] at hlt; omega
   refine VOK_lt (run_slc01_str str9 s .i64 n hn) rfl (VOK_done ?_)
   rw [hc, List.drop_eq_nil_of_le (by omega)]; rfl
 ·refine VOK_lt (run_idx_str str9 (a :: r) .i64 0 h0) rfl (VOK_call (p23 a) rfl rfl (VOK_ite rfl (fun hD => ?_) (fun hD => ?_)))
  ·have e : oneS (a :: r) = numS (a :: r) := by unfold oneS; simp only [hL, hD, Bool.false_eq_true, reduceIte]
   have h24 := p24 (a :: r) (by omega)
   rw [e]
   rcases h : numS (a :: r) with _ | ⟨w, n⟩
   ·rw [h] at h24
    exact VOK_call h24 rfl rfl (VOK_done rfl)
   ·rw [h] at h24
    exact VOK_call h24 rfl rfl (VOK_done rfl)
  ·have e : refRes (oneS (a :: r)) = if markS (a :: r) = [] then refRes none else .tup [.agg (encW ⟨5, markS (a :: r), 0, 0, 0⟩), .int .i64 ((markS (a :: r)).length : Int)] := by
     unfold oneS
     simp only [hL, hD, Bool.false_eq_true, reduceIte]
     split <;> rfl
   rw [e]
   clear e
   unfold mark12
   refine VOK_loop (ι := Nat) (fun i => [.int .i64 (i : Int), twoT]) (fun i => i ≤ 4 ∧ ∀ b t, r = b :: t → ∀ k, k < i → [a, b] ≠ two k) (fun i => 4 - i) 0 ⟨Nat.zero_le _, fun _ _ _ k hk => by omega⟩ rfl (fun _ _ => rfl) (fun i j _ _ h => ?_) (fun i hi => ?_)
   ·simp at h; have h : i = j := by omega
    rw [h]
   obtain ⟨hi4, hno⟩ := hi
   refine VOK_lt len_two rfl (VOK_lt (run_lss ..) rfl (VOK_ite rfl (fun hlt => ?_) (fun hlt => ?_)))
   ·have hlt : i < 4 := by simp only [decide_eq_true_eq] at hlt; omega
    refine VOK_lt (run_len_str str9 _) rfl (VOK_lt (run_gtr ..) rfl (VOK_ite rfl (fun hl => ?_) (fun hl => ?_)))
    ·obtain ⟨b, t, rfl⟩ : ∃ b t, r = b :: t := by
       cases r with
       | nil => simp at hl
       | cons b t => exact ⟨b, t, rfl⟩
     refine VOK_lt (run_slc01_str str9 (a :: b :: t) .i64 2 (by simp)) rfl (VOK_lt (iaddr_two i hlt) (ok_two i) (VOK_lt (load_two i hlt) rfl (VOK_lt (run_eqs ..) rfl (VOK_ite rfl (fun he => ?_) (fun he => ?_)))))
     ·have he : [a, b] = two i := of_decide_eq_true he
      have hm := mark_two a b t i hlt he
      refine VOK_lt (iaddr_two i hlt) (ok_two i) (VOK_lt (load_two i hlt) rfl (VOK_done ?_))
      rw [hm, if_neg (fun h => by have := two_len i; rw [h] at this; cases this), two_len]; rfl
     ·have he : ¬ [a, b] = two i := of_decide_eq_false he
      refine VOK_lt (run_add ..) rfl (VOK_again rfl ⟨i + 1, ⟨hlt, fun b' t' hbt k hk => ?_⟩, congrArg (fun x => [AV.int .i64 x, _]) (inc64 (by omega)), by omega⟩)
      cases hbt
      rcases Nat.lt_or_ge k i with h | h
      ·exact hno b t rfl k h
      ·obtain rfl : k = i := by omega
       exact he
    ·have hr : r = [] := by
       cases r with
       | nil => rfl
       | cons b t => simp at hl; omega
     refine VOK_lt (run_add ..) rfl (VOK_again rfl ⟨i + 1, ⟨hlt, fun b' t' hbt => by rw [hr] at hbt; cases hbt⟩, congrArg (fun x => [AV.int .i64 x, _]) (inc64 (by omega)), by omega⟩)
   ·have hi4 : i = 4 := by simp only [decide_eq_false_iff_not] at hlt; omega
    subst hi4
    have hm := mark_one a r fun b t hbt => by
     rw [← Bool.not_eq_true, pair_two]
     rintro ⟨k, hk, he⟩
     exact hno b t hbt k hk he
    rw [hm]
    unfold one12
    refine VOK_loop (ι := Nat) (fun k => [.int .i64 (k : Int)]) (fun k => k ≤ 15 ∧ ∀ j (h : j < marksT.length), j < k → marksT[j] ≠ a) (fun k => 15 - k) 0 ⟨Nat.zero_le _, fun _ _ h => by omega⟩ rfl (fun _ _ => rfl) (fun i j _ _ h => ?_) (fun k hk => ?_)
    ·simp at h; have h : i = j := by omega
     rw [h]
    obtain ⟨hk15, hk⟩ := hk
    have hml : marksT.length = 15 := rfl
    refine VOK_lt (run_lss ..) rfl (VOK_ite rfl (fun hlt => ?_) (fun hlt => VOK_done ?_))
    ·have hlt : k < 15 := by simp only [decide_eq_true_eq] at hlt; omega
     refine VOK_lt (run_idx_str str9 marksT .i64 k hlt) rfl (VOK_lt (run_idx_str str9 (a :: r) .i64 0 h0) rfl (VOK_lt (r := .bool (decide (marksT[k] = a))) ?_ rfl (VOK_ite rfl (fun he => ?_) (fun he => ?_))))
     ·rw [← int_u8]; exact run_eql ..
     ·have he : marksT[k] = a := of_decide_eq_true he
      have him : isMark a = true := by
       unfold isMark
       rw [List.contains_iff_mem, ← he]
       exact List.getElem_mem _
      refine VOK_lt (run_slc01_str str9 (a :: r) .i64 1 h1) rfl (VOK_done ?_)
      rw [him]; rfl
     ·have he : ¬ marksT[k] = a := of_decide_eq_false he
      refine VOK_lt (run_add ..) rfl (VOK_again rfl ⟨k + 1, ⟨hlt, fun j hj hjk => ?_⟩, congrArg (fun x => [AV.int .i64 x]) (inc64 (by omega)), by omega⟩)
      rcases Nat.lt_or_ge j k with h | h
      ·exact hk j hj h
      ·obtain rfl : j = k := by omega
       exact he
    ·have hk15 : k = 15 := by simp only [decide_eq_false_iff_not] at hlt; omega
     subst hk15
     have him : isMark a = false := by
      unfold isMark
      rw [← Bool.not_eq_true, List.contains_iff_mem]
      intro h
      obtain ⟨j, hj, hja⟩ := List.getElem_of_mem h
      exact hk j hj hj hja
     rw [him]; rfl
end Go.Proofs.Ytmhcemkembijeaa.vars
