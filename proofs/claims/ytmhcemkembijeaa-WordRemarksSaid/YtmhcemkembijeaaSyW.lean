/-
  A law with parameters, where a package variable holds a number.
-/
import Derived.Test.YtmhcemkembijeaaSyS
import Derived.Test.YtmhcemkembijeaaSyV
set_option linter.unusedVariables false
namespace Go.Sx
theorem pure_grownG {P : Program} {g : Nat} {l : List (FuncId × List AV × AV)} {rd : RD} {f : FuncId} {args : List AV} {v : AV} (hp : @Pure (glTI g l rd) P f args v) (w : World) (ps : List MemPlace) {vs : List Value} {m : Int}
  (hw : w.cell? ⟨g, 0, none⟩ = some (.int .i64 m)) (hn : noRefL args = true) (hc : ConL (envOf (imOf w (.cell g 0 :: ps))) args vs) :
  Calls P f ⟨vs⟩ w fun e w' => (∃ E u, e = .returned u ∧ Con E v u) ∧ GrownB w w' := by
 let E : Env := { envOf (imOf w (.cell g 0 :: ps)) with sy := fun i => if i = 0 then some (.int .i64 m) else none }
 have hr : Rel w (fun b => b < w.heap.size) E H0 w := {
  own := ⟨fun _ => none, fun id k hk => (h0_none hk).elim, fun _ _ => rfl, fun _ _ _ _ => rfl⟩
  imm := imOf_ok w _
  ib := fun _ _ _ _ h => h
  fresh := fun _ _ _ => rfl
  resv := fun _ h => h.elim
  vds := fun _ h => h.elim
  szs := fun _ _ h => by cases h
  prot := fun b h => ⟨h, rfl⟩
  size := Nat.le_refl _
  os := rfl
  output := rfl }
 have hg : @GlOk (glTI g l rd) E := by
  refine ⟨fun i => ?_, m, rfl, fun i _ hn => by show (if i = 0 then _ else _) = none; rw [if_neg hn]⟩
  show Con E (glI g i) _
  unfold glI
  split
  ·rename_i hb
   have := Nat.eq_of_beq_eq_true hb
   subst this
   simp only [Con, ConL]
   refine ⟨i, 0, [.int .i64 m], rfl, ⟨_, _, rfl, ⟨.int .i64 m, rfl, rfl, by simp [Con0]⟩, rfl⟩, fun j v hv => ?_⟩
   cases j with
   | zero =>
     simp only [List.getElem?_cons_zero] at hv; cases hv
     show imOf w (.cell i 0 :: ps) i (0 + 0) = _
     unfold imOf
     rw [if_pos (by simp)]
     exact hw
   | succ j => simp at hv
  ·simp [Con]
 refine Calls.mono (hp H0 w (fun b => b < w.heap.size) E w vs hg hr (conL_noRef (E := envOf (imOf w (.cell g 0 :: ps))) (E' := E) (fun _ _ _ h => h) (fun i a _ h => by
  have h : (none : Option AV) = some a := h
  cases h) hn hc)) fun e w' he => ?_
 obtain ⟨E', _, u, rfl, h1, h2⟩ := he
 exact ⟨⟨E', u, rfl, h1⟩, grown_of h2.size (fun b hb => (h2.prot b hb).2) h2.os h2.output⟩
end Go.Sx
