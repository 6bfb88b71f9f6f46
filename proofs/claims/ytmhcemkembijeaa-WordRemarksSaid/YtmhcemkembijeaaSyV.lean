/-
  Calls of the library, by contracts that speak of worlds.
-/
import Derived.Test.YtmhcemkembijeaaSyU
set_option linter.unusedVariables false
namespace Go.Sx
theorem pure_call [Gl] {P : Program} {f : FuncId} {args : List AV} {v : AV} {vals : List Value} {u : Value} (hargs : ∀ E vs, ConL E args vs → vs = vals) (hv : ∀ E, Con E v u)
  (h : ∀ (E : Env) (w : World), GlOk E → (∀ b o x, E.imm b o = some x → w.cell? ⟨b, o, none⟩ = some x) → Calls P f ⟨vals⟩ w fun e w' => e = .returned u ∧ w' = w) : Pure P f args v := by
 intro H B pr E w vs hg hr hc
 rw [hargs _ _ hc]
 refine (h E w hg hr.imm).mono ?_
 rintro e w' ⟨rfl, rfl⟩
 exact ⟨E, Env.le_refl _, u, rfl, hv E, hr⟩
theorem cell_I {g : Nat} {l : List (FuncId × List AV × AV)} {rd : RD} {E : Env} {w : World} (hg : @GlOk (glTI g l rd) E) (hi : ∀ b o x, E.imm b o = some x → w.cell? ⟨b, o, none⟩ = some x) : ∃ m : Int, w.cell? ⟨g, 0, none⟩ = some (.int .i64 m) := by
 obtain ⟨hgl, m, hg1, hg2⟩ := hg
 have hgg := hgl g
 have : @Gl.gl (glTI g l rd) g = .vptr [.sym 0] := by show glI g g = _; unfold glI; rw [Nat.beq_refl]
 rw [this] at hgg
 simp only [Con, ConL] at hgg
 obtain ⟨b0, o0, vs0, e0, ⟨u0, r0, rfl, ⟨a0, e1, e2, e3⟩, rfl⟩, himm⟩ := hgg
 cases e0
 rw [hg1] at e1
 cases e1
 simp only [Con0] at e3
 subst e3
 exact ⟨m, by simpa using hi _ _ _ (himm 0 _ rfl)⟩
theorem args_str_str {s r : List UInt8} (E : Env) (vs : List Value) (h : ConL E [.str s, .str r] vs) : vs = [.string ⟨⟨s⟩⟩, .string ⟨⟨r⟩⟩] := by
 simp only [ConL, Con] at h
 obtain ⟨_, _, rfl, rfl, _, _, rfl, rfl, rfl⟩ := h; rfl
theorem args_str_int {s : List UInt8} {k : IntKind} {n : Int} (E : Env) (vs : List Value) (h : ConL E [.str s, .int k n] vs) : vs = [.string ⟨⟨s⟩⟩, .int k n] := by
 simp only [ConL, Con] at h
 obtain ⟨_, _, rfl, rfl, _, _, rfl, rfl, rfl⟩ := h; rfl
end Go.Sx
