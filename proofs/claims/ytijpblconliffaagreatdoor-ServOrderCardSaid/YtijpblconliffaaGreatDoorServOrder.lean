/-
  The law answers true at every input (the walk: YtijpblconliffaaGreatDoorServOrderm).
-/
import Derived.Test.YtijpblconliffaaGreatDoorRows
import Derived.WalkKit
import Derived.ProofKit
import Derived.OpenShut
import Derived.Test.YtijpblconliffaaGreatDoorSyF
import Derived.Test.YtijpblconliffaaGreatDoorSyS
import Derived.LaidMore
import Derived.Stop.Joined
import Derived.SevenTiedAt
import Derived.Test.YtijpblconliffaaGreatDoorCards
import Derived.Test.YtijpblconliffaaGreatDoorTie
import Derived.Test.YtijpblconliffaaGreatDoorServOrderm
namespace Go.Proofs.YtijpblconliffaaGreatDoor.servOrder
open Go Go.ChangeShapes Go.WideShapes Go.ChangeAt Go.RowKit
set_option linter.unusedVariables false
theorem own:ownKnob Tryz.prog.godebug=none:=by kernel_rfl
theorem door_met (os:Os) (args:Array Value):laidMetH Tryz.prog Rows.servOrderRow.laid ((World.doorLaid Tryz.prog 400 os).forCall (λ_ _=>0) ⟨#[],args,[]⟩).memory:=
 laidMetH_of_parts3 (fuel:=8) (laidMet_of_run' 8 (by kernel_rfl) (by kernel_rfl)) (by kernel_rfl) (by kernel_rfl)
set_option maxRecDepth 100000 in
theorem lifted (os:Os) (started:os.Started) (H:Type) (enc:TypeId×Value->H):
  ReturnsInHanded {} Tryz.checked os 5 .any (λw args=>(Rows.servOrderSpec.pre enc Tryz.prog Tryz.f5 [] false w args/\laidMetH Tryz.prog Rows.servOrderRow.laid w)/\sizedMet enc Tryz.prog Tryz.f5 (OpenSpec.ofChange Rows.servOrderSpec) false w args)
   (Rows.servOrderSpec.post enc Tryz.prog Tryz.f5 false true false false):=by
 refine returnsInHanded_of_change_and (C:=Tryz.checked) (X:=λw _=>laidMetH Tryz.prog Rows.servOrderRow.laid w) (λ_ _ _ hh h=>h.of_heap hh) own started (by kernel_rfl) Tryz.func5
  (ChangeSpec.witness_shaped (enc:=enc) (C:=Tryz.checked) (os:=os) (X:=λw _=>laidMetH Tryz.prog Rows.servOrderRow.laid w) false (World.doorLaid Tryz.prog 400 os) #[.slice none 0 0] 8 rfl (World.shaped_of_RefB (by kernel_rfl) (by kernel_rfl)) (by kernel_rfl) (by kernel_rfl) (by kernel_rfl) (door_met os _)) ?_
 intro W base args ds gs before hval0 hW _ _ hL _
 have hval:∀(j:Nat) t v,Tryz.f5.params[j]? =some t->args[j]? =some v->Value.okWide Tryz.prog W .any base t v:=hval0
 have hW':=hW
 obtain ⟨p,q,hA0,hV,rfl,hfz,hnd⟩:=hW
 have hA:DataW.TrodAll enc Tryz.prog W 0 (λ_=>true) true Tryz.f5.params.toList args.toList ds p:=hA0
 rw [Tryz.params5]at hA hval
 obtain ⟨v0,vs0,d0,ds0,p0,q0,hargs,rfl,hp0,h0,r0⟩:=trodAll_cons hA
 obtain ⟨rfl,rfl,rfl⟩:=trodAll_nil r0
 obtain rfl:args= #[v0]:=by cases args;simp_all
 obtain ⟨rfl,rfl⟩:=trodVars_none hV
 obtain ⟨l0,x0,sl0,pl0,m0,c0⟩:=vars.arg_u8s (hval 0 22 v0 rfl rfl) h0 (ps:=p) (λx hx=>by rw [hp0];simp [hx])
 simp only [List.append_nil]at hW'
 refine (vars.walkServOrder (W:=W) (p:=p) l0 x0 sl0 pl0 m0 c0).mono λe W' ⟨he,hg⟩=>?_
 subst he
 exact ⟨_,rfl,Go.Sx.post_own (pa:=p) (pv:=[]) hW' (λ_ _ _=>(trodAll_cons_mk (shut_bool Tryz.underlying4 _) trodAll_mk0)) (λsp hsp=>Go.Sx.trodAll_again (d:=8) hg (by kernel_rfl) hA0 (λx hx=>hW'.lt x hx) hsp) (λ_ _=>rfl) (List.append_nil p).symm
  (World.keptBut_mono (λ_ f=>f.elim) hg.1) hg.2.1 (ok_one (by kernel_rfl) rfl (okWide_bool_mk Tryz.underlying4 _))⟩
theorem over:Rows.servOrderRow.holds Tryz.pinned (OpenSpec.ofChange Rows.servOrderSpec):=
 OpenClaim.holds_of_wide 5 Tryz.f5 rfl rfl rfl rfl rfl rfl rfl ⟨rfl,rfl,rfl,rfl,rfl⟩ rfl rfl rfl rfl rfl (by kernel_rfl) Tryz.func5 (by kernel_rfl)
  (of_decide_eq_true (by kernel_rfl)) (by unfold Func.isWrapper;first|(rw [if_pos (by decide +kernel)];kernel_rfl)|(rw [if_neg (by decide +kernel)];exact ⟨rfl,rfl⟩))
  (λos started H enc _=>lifted os started H enc)
theorem proved:Rows.ServOrderCardSaid:=
 Claim7.holds_tied_plain_at .later [] [.data,.data,.data] true (true,"592ef1f5f33f2ac23af8ac356864ea0faf1316d804bda8557027360d8b21e44d") true
  over (λ_ h=>by cases h) (by kernel_rfl) (λ_ h=>by cases h) servOrder_row_tie rfl ⟨rfl,rfl⟩ (by kernel_rfl) rfl
  (λf fn hf hfn=>by
   obtain rfl:f=5:=Option.some.inj ((show Tryz.prog.funcNamed Rows.servOrderRow.func=some 5 by kernel_rfl).symm.trans hf) |>.symm
   obtain rfl:fn=Tryz.f5:=(Option.some.inj (Tryz.func5.symm.trans hfn)).symm
   exact ⟨by kernel_rfl,λj t ht=>by
    rw [Tryz.params5]at ht
    rcases j with _|j
    ·simp at ht;subst ht;kernel_rfl
    ·simp at ht;done⟩)
  (by kernel_rfl)
#print axioms proved
end Go.Proofs.YtijpblconliffaaGreatDoor.servOrder
