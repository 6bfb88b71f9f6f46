/-
  A call whose operations on symbols are all known; what it does to a world.
-/
import Derived.Test.YtmhcemkembijeaaSyE
set_option linter.unusedVariables false
set_option linter.unusedSimpArgs false
namespace Go.Sx

variable [Gl]
theorem pure_facts {P : Program} (hm : P.follows .mixedOrders = true) (ho : OvOk P) {ls : List AV} {fc : FcT} {v : AV} {n : Nat} {f : FuncId} (hls : okL ls = true) (hv : noRef v = true)
    (hk : ∀ Y, Fresh Y 64 → KnownF P fc (Y.puts 64 ls)) (h : doneT v (xFn P n fc f (symsFrom 64 ls.length) (64 + ls.length)) = true) : Pure P f ls v :=
  pure_sym (args' := symsFrom 64 ls.length) (okL_okIL hls) hv (symsFrom_ok _ _) hls (fun Y hf => den_syms 64 ls fun i a ha => puts_at ls hf i a ha) fun Y hf hg =>
    xFn_ok hm (callN_ok hm ho n) ⟨(hf.puts ls).1, hk Y hf⟩ (doneT_ok h)

/-- facts that name arguments by their places -/
theorem known_of {P : Program} {ls : List AV} {fb : List Fact} (h : ∀ f ∈ fb, okC f.v = true ∧ okC f.c = true ∧ ∃ j a, f.i = 64 + j ∧ ls[j]? = some a ∧ f.ok P a) :
    ∀ Y, Fresh Y 64 → KnownF P ⟨fb, []⟩ (Y.puts 64 ls) := fun Y hf => ⟨fun f hm => by
  obtain ⟨h1, h2, j, a, h3, h4, h5⟩ := h f hm
  exact ⟨h1, h2, a, by rw [h3]; exact puts_at ls hf j a h4, h5⟩, fun _ h => by cases h⟩

omit [Gl] in
theorem rem_run {P : Program} {k : IntKind} {x c r : Int} (hc : c ≠ 0) (hr : x.tmod c = r) (t : TypeId) (cx cy : Bool) : evBin P .rem t cx cy (.int k x) (.int k c) = some (.int k r) := by
  subst hr
  show evIntOr P .rem k x k c = _
  have hb : Nat.beq (kix k) (kix k) = true := Nat.beq_refl _
  unfold evIntOr
  rw [hb]
  show (match (none : Option AV) with | some r => some r | none => evInt2 P .rem k x k c) = _
  simp only
  unfold evInt2
  simp only [binOp, Op.intDiv, hc, ne_eq, not_true_eq_false, if_false]
  rfl

theorem pure_grown {P : Program} {f : FuncId} {args : List AV} {v : AV} (hp : Pure P f args v) (w : World) {vs : List Value} (hc : ∀ E : Env, ConL E args vs)
    (hg : GlOk (envOf fun _ _ => none)) : Calls P f ⟨vs⟩ w fun e w' => (∃ E u, e = .returned u ∧ Con E v u) ∧ GrownB w w' := by
  refine Calls.mono (hp H0 w (fun b => b < w.heap.size) (envOf fun _ _ => none) w vs hg (relOf w _ (fun _ _ _ h => by cases h)) (hc _)) fun e w' he => ?_
  obtain ⟨E', _, u, rfl, h1, h2⟩ := he
  exact ⟨⟨E', u, rfl, h1⟩, grown_of h2.size (fun b hb => (h2.prot b hb).2) h2.os h2.output⟩
end Go.Sx
