/-
  The law's arguments: bytes that are handed in; GenParts at them.
-/
import Derived.Test.YtjconanknjgpnaaVB
import Derived.Test.YtjconanknjgpnaaSyS
set_option maxRecDepth 100000
set_option linter.unusedVariables false
set_option linter.unusedSimpArgs false
namespace Go.Proofs.Ytjconanknjgpnaa.vars
open Go Go.Sx
theorem rows_of {α : Type} {enc : α → List AV} {p : List AV → Prop} {q : α → Prop} (h : ∀ r, p r → ∃ a, r = enc a ∧ q a) : ∀ rows : List (List AV), (∀ r, r ∈ rows → p r) → ∃ l : List α, rows.flatten = encL enc l ∧ l.length = rows.length ∧ ∀ a, a ∈ l → q a
 | [], _ => ⟨[], rfl, rfl, fun a h => by cases h⟩
 | r :: rows, hr => by
   obtain ⟨a, rfl, ha⟩ := h r (hr r (List.mem_cons_self ..))
   obtain ⟨l, h1, h2, h3⟩ := rows_of h rows fun r h => hr r (List.mem_cons_of_mem _ h)
   refine ⟨a :: l, by rw [List.flatten_cons, h1]; rfl, by simp [h2], fun b hb => ?_⟩
   rcases List.mem_cons.1 hb with rfl | hb
   ·exact ha
   ·exact h3 b hb
theorem fit_u8 {r : List AV} (h : Sx.Fit Try.prog 5 r) : ∃ c : UInt8, r = encC c ∧ True := by
 obtain ⟨n, rfl, hn⟩ := fit_int_inv Try.underlying5 h
 have hn : 0 ≤ n ∧ n ≤ 255 := by simpa [Lit.wf, IntKind.min, IntKind.max, IntKind.bits, IntKind.signed] using hn
 refine ⟨n.toNat.toUInt8, ?_, trivial⟩
 have : ((n.toNat.toUInt8).toNat : Int) = n := by
  have h1 : n.toNat.toUInt8.toNat = n.toNat := by
   simp only [Nat.toUInt8, UInt8.toNat_ofNat']; omega
  rw [h1]; omega
 unfold encC
 rw [this]
theorem arg_u8s {H : Type} {enc : TypeId × Value → H} {W : World} {base : Nat} {v : Value} {dd : DataW H} {p ps : List MemPlace} (hok : Value.okWide Try.prog W .any base 22 v)
  (h : DataW.Trod enc Try.prog W 0 (fun _ => true) true 22 v dd p) (hps : ∀ q, q ∈ p → q ∈ ps) : ∃ (l : List UInt8) (a : AV), SlV encC 1 l a ∧ True ∧ l.length ≤ maxLen ∧ Con (envOf (imOf W ps)) a v := by
 rcases arg_slice (d := 5) Try.underlying22 (by kernel_rfl) hok h hps with rfl | ⟨rows, h1, h2, h3, h4⟩
 ·exact ⟨[], .nsl, .inr ⟨rfl, rfl⟩, trivial, Nat.zero_le _, by simp only [Con]⟩
 ·obtain ⟨l, k1, k2, k3⟩ := rows_of (enc := encC) (q := fun _ => True) (fun r hr => fit_u8 hr) rows h1
  have hc : Try.prog.cellsOf 5 = 1 := by kernel_rfl
  refine ⟨l, vslOf encC 1 l, .inl rfl, trivial, by omega, ?_⟩
  have h4' := h4
  rw [k1, hc, ← k2] at h4'
  exact h4'
theorem q5 {l : List UInt8} {x : AV} (sl : SlV encC 1 l x) (m : l.length ≤ maxLen) {c : Int} (w : (Lit.int .u8 c).wf = true) : Pure Try.prog 5 [x, .int .u8 c] (.bool true) := by
 have hn : 0 ≤ c ∧ c ≤ 255 := by simpa [Lit.wf, IntKind.min, IntKind.max, IntKind.bits, IntKind.signed] using w
 obtain ⟨n, rfl⟩ : ∃ n : Nat, c = (n : Int) := ⟨c.toNat, by omega⟩
 exact p5 ⟨sl, by simp only [maxLen] at m; omega⟩ n (by omega)
end Go.Proofs.Ytjconanknjgpnaa.vars
