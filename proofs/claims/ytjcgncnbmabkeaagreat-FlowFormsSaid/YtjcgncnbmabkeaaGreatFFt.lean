/-
  math.Trunc of what is no number is no number.
-/
import Derived.Test.YtjcgncnbmabkeaaGreatRows
import Derived.Test.YtjcgncnbmabkeaaGreatSxY
import Derived.KernelRfl
import Derived.WalkKit
import Derived.ProofKit
import Derived.Laws.Externs
import Derived.Lib.Hide
namespace Go.Proofs.YtjcgncnbmabkeaaGreat.tr
open Go.Sx Go

theorem quiet_nan (s : Bool) (t : Nat) : ((FloatKind.f64.format).read (FloatKind.f64.encode (.nan s (FloatKind.f64.format.quiet t)))).isNaN = true := by
  refine read_nan ?_ (by decide +kernel)
  have h51 : (Ieee.Format.quiet Ieee.double t % Ieee.double.binade).testBit 51 = true := by
    have hb : Ieee.double.binade = 2 ^ 52 := by decide +kernel
    rw [hb, Nat.testBit_mod_two_pow]
    show (decide (51 < 52) && (t ||| 2 ^ (Ieee.double.fractionBits - 1)).testBit 51) = true
    have hf : Ieee.double.fractionBits - 1 = 51 := by decide +kernel
    rw [hf, Nat.testBit_or, Nat.testBit_two_pow_self]
    simp
  have hpos : 0 < Ieee.Format.quiet Ieee.double t % Ieee.double.binade := by
    rcases Nat.eq_zero_or_pos (Ieee.Format.quiet Ieee.double t % Ieee.double.binade) with h | h
    · rw [h] at h51; simp at h51
    · exact h
  have hlt : Ieee.Format.quiet Ieee.double t % Ieee.double.binade < Ieee.double.binade := Nat.mod_lt _ (by decide +kernel)
  show Ieee.double.infRung < (Ieee.double.word s (Ieee.double.infRung + Ieee.Format.quiet Ieee.double t % Ieee.double.binade)) % Ieee.double.signWeight
  generalize Ieee.Format.quiet Ieee.double t % Ieee.double.binade = q at *
  have e1 : Ieee.double.infRung = 9218868437227405312 := by decide +kernel
  have e2 : Ieee.double.signWeight = 9223372036854775808 := by decide +kernel
  have e3 : Ieee.double.binade = 4503599627370496 := by decide +kernel
  unfold Ieee.Format.word
  rw [e1, e2]
  rw [e3] at hlt
  cases s <;> simp <;> omega

theorem trunc_eq (b : Nat) : ∃ q : Question, Extern.MathFloor.toIntegral "math.archTrunc" .zero #[.float .f64 b] = (match FloatKind.f64.format.read b with
    | .nan s t => if FloatKind.f64.format.quiet t = t then pure (.float .f64 b) else do
        let kept ← choose q
        pure (.float .f64 (if kept == 1 then b else FloatKind.f64.encode (.nan s (FloatKind.f64.format.quiet t))))
    | d => pure (.float .f64 (FloatKind.f64.encode (d.integral .zero)))) := ⟨_, rfl⟩
theorem trunc_run {P : Program} (b : Nat) (hb : ((FloatKind.f64.format).read b).isNaN = true) (w : World) :
    ∃ b' n, (Extern.MathFloor.toIntegral "math.archTrunc" .zero #[.float .f64 b]).run P w = .ok (.float .f64 b') { w with drawn := n } ∧ ((FloatKind.f64.format).read b').isNaN = true := by
  obtain ⟨q, e⟩ := trunc_eq b
  rw [e]
  cases hd : FloatKind.f64.format.read b with
  | number _ _ _ => rw [hd] at hb; cases hb
  | infinity _ => rw [hd] at hb; cases hb
  | nan s t =>
    simp only
    split
    · exact ⟨b, w.drawn, rfl, by rw [hd]; rfl⟩
    · simp only [Sem.run_bind, choose, Sem.run, Result.andThen]
      by_cases hq : q.forced = true
      · rw [if_pos hq]
        exact ⟨_, w.drawn, rfl, quiet_nan s t⟩
      · rw [if_neg hq]
        refine ⟨_, _, rfl, ?_⟩
        split
        · rw [hd]; rfl
        · exact quiet_nan s t

set_option maxRecDepth 100000 in
theorem trunc_call (b : Nat) (hb : ((FloatKind.f64.format).read b).isNaN = true) (w : World) :
    Calls Tryz.prog 102 #[.float .f64 b] w fun e w' => ∃ b' n, e = .returned (.float .f64 b') ∧ w' = { w with drawn := n } ∧ ((FloatKind.f64.format).read b').isNaN = true := by
  obtain ⟨b', n, h1, h2⟩ := trunc_run (P := Tryz.prog) b hb w
  have h3 : (callFunc 137 #[.float .f64 b]).run Tryz.prog w = .ok (.value (.float .f64 b')) { w with drawn := n } := by
    rw [run_callFunc_extern (P := Tryz.prog) (f := 137) (e := Extern.MathFloor.toIntegral "math.archTrunc" .zero) Tryz.func137 (by kernel_rfl) (by kernel_rfl) (by kernel_rfl) (by kernel_rfl), h1]
    rfl
  have H2 := Lib.hid h2
  clear h2 hb h1
  generalize hw1 : ({ w with drawn := n } : World) = w1 at *
  have H3 := Lib.hid hw1
  clear hw1
  go_enter Tryz.func102, Tryz.ntmps102
  go_wp2
  go_ret
  exact ⟨b', n, rfl, H3.out.symm, H2.out⟩
theorem known : @Pure (glT gl0 nr0 []) Tryz.prog 102 [.nan .f64] (.nan .f64) := by
  intro H B pr E w vs hg hr hc
  simp only [ConL, Con] at hc
  obtain ⟨v, r, rfl, ⟨b, rfl, hb⟩, rfl⟩ := hc
  refine (trunc_call b hb w).mono fun e w' he => ?_
  obtain ⟨b', n, rfl, rfl, h⟩ := he
  exact ⟨E, Env.le_refl E, _, rfl, by simp only [Con]; exact ⟨b', rfl, h⟩, hr.drawn n⟩
end Go.Proofs.YtjcgncnbmabkeaaGreat.tr
