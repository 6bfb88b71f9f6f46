/-
  Strings as values: pieces, joined, held against; whole numbers as floats.
-/
import Derived.Test.YtmhcemkembijeaaSyT
set_option linter.unusedVariables false
set_option linter.unusedSimpArgs false
namespace Go.Sx
section
variable {P : Program} {t : TypeId}
theorem run_slc10_str (ht : P.underlying t = some .string) (s : List UInt8) (k : IntKind) (n : Nat) (h : n ≤ s.length) : (XOp.slc t true false).run P [.str s, .int k (n : Int)] = some (.str (s.drop n)) := by
 show evSlice P h0 t (.str s) (some (.int k (Int.ofNat n))) none = _
 unfold evSlice
 simp only [bnd, ht, lenB_eq]
 have e1 : Nat.ble n s.length = true := Nat.ble_eq_true_of_le h
 have e2 : Nat.ble s.length s.length = true := Nat.ble_eq_true_of_le (Nat.le_refl _)
 simp only [e1, e2, Bool.and_self, takeB_eq, dropB_eq]
 rw [List.take_of_length_le (by rw [List.length_drop]; exact Nat.le_refl _)]
theorem run_slc01_str (ht : P.underlying t = some .string) (s : List UInt8) (k : IntKind) (n : Nat) (h : n ≤ s.length) : (XOp.slc t false true).run P [.str s, .int k (n : Int)] = some (.str (s.take n)) := by
 show evSlice P h0 t (.str s) none (some (.int k (Int.ofNat n))) = _
 unfold evSlice
 simp only [bnd, ht, lenB_eq]
 have e1 : Nat.ble n s.length = true := Nat.ble_eq_true_of_le h
 have e2 : Nat.ble 0 n = true := Nat.ble_eq_true_of_le (Nat.zero_le _)
 simp only [e1, e2, Bool.and_self, takeB_eq, dropB_eq]
 rfl
theorem run_slc11_str (ht : P.underlying t = some .string) (s : List UInt8) (k k' : IntKind) (n m : Nat) (h : n ≤ m) (hm : m ≤ s.length) : (XOp.slc t true true).run P [.str s, .int k (n : Int), .int k' (m : Int)] = some (.str ((s.drop n).take (m - n))) := by
 show evSlice P h0 t (.str s) (some (.int k (Int.ofNat n))) (some (.int k' (Int.ofNat m))) = _
 unfold evSlice
 simp only [bnd, ht, lenB_eq]
 have e1 : Nat.ble n m = true := Nat.ble_eq_true_of_le h
 have e2 : Nat.ble m s.length = true := Nat.ble_eq_true_of_le hm
 simp only [e1, e2, Bool.and_self, takeB_eq, dropB_eq]
 rfl
theorem run_cat (cx cy : Bool) (a b : List UInt8) (h : a.length + b.length < 9223372036854775807) : (XOp.bin .add t cx cy).run P [.str a, .str b] = some (.str (a ++ b)) := by
 show (match Nat.blt (Nat.add (lenB a) (lenB b)) 9223372036854775807 with
  | true => some (AV.str (appB a b))
  | false => none) = _
 have : Nat.blt (Nat.add (lenB a) (lenB b)) 9223372036854775807 = true := by
  rw [Nat.blt_eq, lenB_eq, lenB_eq]; exact h
 rw [this, appB_eq]
theorem eqB_dec (a b : List UInt8) : eqB a b = decide (a = b) := by
 by_cases h : a = b
 ·subst h; rw [decide_eq_true rfl]; exact by rw [eqB_eq]; exact beq_self_eq_true a
 ·rw [decide_eq_false h]
  cases hb : eqB a b with
  | false => rfl
  | true => exact absurd (by rw [eqB_eq] at hb; exact eq_of_beq hb) h
theorem run_eqs (cx cy : Bool) (a b : List UInt8) : (XOp.bin .eql t cx cy).run P [.str a, .str b] = some (.bool (decide (a = b))) := by
 show some (AV.bool (eqB a b)) = _
 rw [eqB_dec]
theorem run_nes (cx cy : Bool) (a b : List UInt8) : (XOp.bin .neq t cx cy).run P [.str a, .str b] = some (.bool (!decide (a = b))) := by
 show some (AV.bool (not (eqB a b))) = _
 rw [eqB_dec]
theorem run_conv_ii {s d : TypeId} {ds : TypeDesc} {k j : IntKind} (hs : P.underlying s = some ds) (hd : P.underlying d = some (.int k)) (n : Int) : (XOp.conv s d).run P [.int j n] = some (.int k (k.wrap n)) := by
 show evConv P h0 s d (.int j n) = _
 unfold evConv evConvI
 simp only [hs, hd, mkI_eq, wrapF_eq]
theorem run_conv_if {s d : TypeId} {ds : TypeDesc} {k : FloatKind} {j : IntKind} (hs : P.underlying s = some ds) (hd : P.underlying d = some (.float k)) (n : Int) : (XOp.conv s d).run P [.int j n] = some (.flt k (k.nearest n)) := by
 show evConv P h0 s d (.int j n) = _
 unfold evConv evConvI
 simp only [hs, hd]
end
end Go.Sx
