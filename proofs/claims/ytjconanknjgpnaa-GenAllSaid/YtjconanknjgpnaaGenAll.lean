/-
  The law answers true at every input (the walk: YtjconanknjgpnaaGenAllm).
-/
import Derived.Test.YtjconanknjgpnaaRows
import Derived.WalkKit
import Derived.ProofKit
import Derived.OpenShut
import Derived.Test.YtjconanknjgpnaaSyF
import Derived.Test.YtjconanknjgpnaaSyS
import Derived.Test.YtjconanknjgpnaaGenAllm
namespace Go.Proofs.Ytjconanknjgpnaa.genAll
open Go Go.ChangeShapes Go.WideShapes Go.ChangeAt Go.RowKit
set_option linter.unusedVariables false
theorem own : ownKnob Try.prog.godebug = none := by kernel_rfl
set_option maxRecDepth 100000 in
theorem lifted (os : Os) (started : os.Started) (H : Type) (enc : TypeId × Value → H) :
  ReturnsInHanded {} Try.checked os 3 .any (Rows.genAllSpec.pre6 enc Try.prog Try.f3 Rows.genAllRow.domain false)
   (Rows.genAllSpec.post enc Try.prog Try.f3 false true false false) := by
 refine returnsInHanded_of_change (C := Try.checked) own started (by kernel_rfl) Try.func3
  (ChangeSpec.witness6 (enc := enc) (C := Try.checked) false ⟨#[], #[.slice none 0 0], []⟩ 8 (by kernel_rfl) (by kernel_rfl) (by kernel_rfl) (by kernel_rfl)) ?_
 intro W base args ds gs before hval0 hW hcnd _
 have hval : ∀ (j : Nat) t v, Try.f3.params[j]? = some t → args[j]? = some v → Value.okWide Try.prog W .any base t v := hval0
 have hW' := hW
 obtain ⟨p, q, hA0, hV, rfl, hfz, hnd⟩ := hW
 have hA : DataW.TrodAll enc Try.prog W 0 (fun _ => true) true Try.f3.params.toList args.toList ds p := hA0
 rw [Try.params3] at hA hval
 obtain ⟨v0, vs0, d0, ds0, p0, q0, hargs, rfl, hp0, h0, r0⟩ := trodAll_cons hA
 obtain ⟨rfl, rfl, rfl⟩ := trodAll_nil r0
 obtain rfl : args = #[v0] := by cases args; simp_all
 obtain ⟨rfl, rfl⟩ := trodVars_none hV
 obtain ⟨l0, x0, sl0, pl0, m0, c0⟩ := vars.arg_u8s (hval 0 22 v0 rfl rfl) h0 (ps := p) (fun x hx => by rw [hp0]; simp [hx])
 simp only [List.append_nil] at hW'
 refine (vars.walkGenAll (W := W) (p := p) l0 x0 sl0 pl0 m0 c0).mono fun e W' ⟨he, hg⟩ => ?_
 subst he
 exact ⟨_, rfl, Go.Sx.post_own (pa := p) (pv := []) hW' (fun _ _ _ => (trodAll_cons_mk (shut_bool Try.underlying4 _) trodAll_mk0)) (fun sp hsp => Go.Sx.trodAll_again (d := 8) hg (by kernel_rfl) hA0 (fun x hx => hW'.lt x hx) hsp) (fun _ _ => rfl) (List.append_nil p).symm
  (hg.frame _) hg.2.1 (ok_one (by kernel_rfl) rfl (okWide_bool_mk Try.underlying4 _))⟩
theorem over : Rows.genAllRow.holds Try.pinned (OpenSpec.ofChange Rows.genAllSpec) :=
 OpenClaim.holds_of_wide 3 Try.f3 rfl rfl rfl rfl rfl rfl rfl ⟨rfl, rfl, rfl, rfl, rfl⟩ rfl rfl rfl rfl rfl (by kernel_rfl) Try.func3 (by kernel_rfl)
  (of_decide_eq_true (by kernel_rfl)) (by unfold Func.isWrapper; first | (rw [if_pos (by decide +kernel)]; kernel_rfl) | (rw [if_neg (by decide +kernel)]; exact ⟨rfl, rfl⟩))
  (fun os started H enc _ => lifted os started H enc)
theorem proved : Rows.GenAllSaid :=
 over
#print axioms proved
end Go.Proofs.Ytjconanknjgpnaa.genAll
