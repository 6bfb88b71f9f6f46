/-
  The law answers true at every input (the walk: YteegdnoekakdbaaGreatDoorTopStillm).
-/
import Derived.Test.YteegdnoekakdbaaGreatDoorRows
import Derived.WalkKit
import Derived.ProofKit
import Derived.OpenShut
import Derived.Test.YteegdnoekakdbaaGreatDoorSyF
import Derived.Test.YteegdnoekakdbaaGreatDoorSyE
import Derived.LaidMore
import Derived.Stop.Joined
import Derived.SevenTiedAt
import Derived.Test.YteegdnoekakdbaaGreatDoorCards
import Derived.Test.YteegdnoekakdbaaGreatDoorTie
import Derived.HandedShaped
import Derived.Shelf.Vars
import Derived.Test.YteegdnoekakdbaaGreatDoorTopStillm
import Derived.Test.YteegdnoekakdbaaGreatDoorTopStillx
import Derived.Test.YteegdnoekakdbaaGreatDoorTopStilly
namespace Go.Proofs.YteegdnoekakdbaaGreatDoor.topStill
open Go Go.ChangeShapes Go.WideShapes Go.ChangeAt Go.RowKit
set_option linter.unusedVariables false
theorem own:ownKnob Tryz.prog.godebug=none:=by kernel_rfl
theorem door_met (os:Os) (args:Array Value):laidMetH Tryz.prog Rows.topStillRow.laid ((World.doorLaid Tryz.prog 400 os).forCall (λ_ _=>0) ⟨#[],args,[]⟩).memory:=
 laidMetH_of_parts3 (fuel:=8) (laidMet_of_run' 8 (by kernel_rfl) (by kernel_rfl)) (by kernel_rfl) (by kernel_rfl)
set_option maxRecDepth 100000 in
theorem lifted (os:Os) (started:os.Started) (H:Type) (enc:TypeId×Value->H):
  ReturnsInHanded {} Tryz.checked os 3 .any (λw args=>(Rows.topStillSpec.pre enc Tryz.prog Tryz.f3 [] false w args/\laidMetH Tryz.prog Rows.topStillRow.laid w)/\sizedMet enc Tryz.prog Tryz.f3 (OpenSpec.ofChange Rows.topStillSpec) false w args)
   (Rows.topStillSpec.post enc Tryz.prog Tryz.f3 false true false false):=by
 refine Go.Sx.returns_and_shaped (C:=Tryz.checked) (X:=λw _=>laidMetH Tryz.prog Rows.topStillRow.laid w) (λ_ _ _ hh h=>h.of_heap hh) own started (by kernel_rfl) Tryz.func3
  (ChangeSpec.witness_shaped (enc:=enc) (C:=Tryz.checked) (os:=os) (X:=λw _=>laidMetH Tryz.prog Rows.topStillRow.laid w) false (World.doorLaid Tryz.prog 400 os) #[.int .u8 0,.int .u8 0] 8 rfl (World.shaped_of_RefB (by kernel_rfl) (by kernel_rfl)) (by kernel_rfl) (by kernel_rfl) (by kernel_rfl) (door_met os _)) ?_
 intro W base args ds gs before hval0 hW hL hshape
 obtain ⟨m,hm⟩:=cell_of_shapedOpen_int (P:=Tryz.prog) (g:=1) (t:=3) (zero:= #[.int .i64 0]) hshape (of_decide_eq_true (by kernel_rfl)) (by kernel_rfl) rfl (by kernel_rfl) (by kernel_rfl) Tryz.underlying3
 have hval:∀(j:Nat) t v,Tryz.f3.params[j]? =some t->args[j]? =some v->Value.okWide Tryz.prog W .any base t v:=hval0
 have hW':=hW
 obtain ⟨p,q,hA0,hV,rfl,hfz,hnd⟩:=hW
 have hA:DataW.TrodAll enc Tryz.prog W 0 (λ_=>true) true Tryz.f3.params.toList args.toList ds p:=hA0
 rw [Tryz.params3]at hA hval
 obtain ⟨v0,vs0,d0,ds0,p0,q0,hargs,rfl,hp0,h0,r0⟩:=trodAll_cons hA
 obtain ⟨v1,vs1,d1,ds1,p1,q1,rfl,rfl,hp1,h1,r1⟩:=trodAll_cons r0
 obtain ⟨rfl,rfl,rfl⟩:=trodAll_nil r1
 obtain rfl:args= #[v0,v1]:=by cases args;simp_all
 obtain ⟨rfl,rfl⟩:=trodVars_none hV
 obtain ⟨a0,rfl,rfl,rfl,w0⟩:=open_int Tryz.underlying5 (hval 0 5 v0 rfl rfl) h0
 obtain ⟨a1,rfl,rfl,rfl,w1⟩:=open_int Tryz.underlying5 (hval 1 5 v1 rfl rfl) h1
 simp only [List.append_nil]at hW'
 refine (vars.walkTopStill (W:=W) (p:=p) hm a0 w0 a1 w1).mono λe W' ⟨he,hg⟩=>?_
 subst he
 exact ⟨_,rfl,Go.Sx.post_own (pa:=p) (pv:=[]) hW' (λ_ _ _=>(trodAll_cons_mk (shut_bool Tryz.underlying4 _) trodAll_mk0)) (λsp hsp=>Go.Sx.trodAll_again (d:=8) hg (by kernel_rfl) hA0 (λx hx=>hW'.lt x hx) hsp) (λ_ _=>rfl) (List.append_nil p).symm
  (World.keptBut_mono (λ_ f=>f.elim) hg.1) hg.2.1 (ok_one (by kernel_rfl) rfl (okWide_bool_mk Tryz.underlying4 _))⟩
theorem closed:joinedFacts Tryz.pinned.checked.prog 3 Tryz.f3 Rows.topStillSpec Rows.topStillRow=true:=by
 unfold joinedFacts
 rw [k10,k11,k12,k13]
 kernel_rfl
theorem over:Rows.topStillRow.holds Tryz.pinned (OpenSpec.ofChange Rows.topStillSpec):=
 OpenClaim.holds_of_wide 3 Tryz.f3 rfl rfl rfl rfl rfl rfl rfl ⟨rfl,rfl,rfl,rfl,rfl⟩ rfl rfl rfl rfl rfl (by kernel_rfl) Tryz.func3 closed
  (of_decide_eq_true (by kernel_rfl)) (by unfold Func.isWrapper;first|(rw [if_pos (by decide +kernel)];kernel_rfl)|(rw [if_neg (by decide +kernel)];exact ⟨rfl,rfl⟩))
  (λos started H enc _=>lifted os started H enc)
theorem proved:Rows.TopStillCardSaid:=
 Claim7.holds_tied_plain_at .later [] [.data,.data,.data] true (true,"504ace9ae161253c6986c5ef8da9bcaeb7714e9978d7bd5221975e1e2c28ef52") true
  over (λ_ h=>by cases h) k14 (λ_ h=>by cases h) topStill_row_tie rfl ⟨rfl,rfl⟩ k15 rfl
  (λf fn hf hfn=>by
   obtain rfl:f=3:=Option.some.inj (k18.symm.trans hf) |>.symm
   obtain rfl:fn=Tryz.f3:=(Option.some.inj (Tryz.func3.symm.trans hfn)).symm
   exact ⟨k16,λj t ht=>by
    rw [Tryz.params3]at ht
    rcases j with _|_|j
    ·simp at ht;subst ht;kernel_rfl
    ·simp at ht;subst ht;kernel_rfl
    ·simp at ht;done⟩)
  k17
#print axioms proved
end Go.Proofs.YteegdnoekakdbaaGreatDoor.topStill
