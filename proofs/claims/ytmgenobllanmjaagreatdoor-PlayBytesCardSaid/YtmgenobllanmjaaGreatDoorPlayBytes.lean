/-
  The law answers true at every input (the walk: YtmgenobllanmjaaGreatDoorPlayBytesm).
-/
import Derived.Test.YtmgenobllanmjaaGreatDoorRows
import Derived.WalkKit
import Derived.ProofKit
import Derived.OpenShut
import Derived.Test.YtmgenobllanmjaaGreatDoorSyF
import Derived.Test.YtmgenobllanmjaaGreatDoorSyE
import Derived.LaidMore
import Derived.Stop.Joined
import Derived.SevenTiedAt
import Derived.Test.YtmgenobllanmjaaGreatDoorCards
import Derived.Test.YtmgenobllanmjaaGreatDoorTie
import Derived.HandedShaped
import Derived.Shelf.Vars
import Derived.Test.YtmgenobllanmjaaGreatDoorPlayBytesm
import Derived.Test.YtmgenobllanmjaaGreatDoorPlayBytesx
import Derived.Test.YtmgenobllanmjaaGreatDoorPlayBytesy
namespace Go.Proofs.YtmgenobllanmjaaGreatDoor.playBytes
open Go Go.ChangeShapes Go.WideShapes Go.ChangeAt Go.RowKit
set_option linter.unusedVariables false
theorem own:ownKnob Tryz.prog.godebug=none:=by kernel_rfl
theorem door_met (os:Os) (args:Array Value):laidMetH Tryz.prog Rows.playBytesRow.laid ((World.doorLaid Tryz.prog 400 os).forCall (λ_ _=>0) ⟨#[],args,[]⟩).memory:=
 laidMetH_of_parts3 (fuel:=8) (laidMet_of_run' 8 (by kernel_rfl) (by kernel_rfl)) (by kernel_rfl) (by kernel_rfl)
set_option maxRecDepth 100000 in
theorem lifted (os:Os) (started:os.Started) (H:Type) (enc:TypeId×Value->H):
  ReturnsInHanded {} Tryz.checked os 3 .any (λw args=>(Rows.playBytesSpec.pre enc Tryz.prog Tryz.f3 [] false w args/\laidMetH Tryz.prog Rows.playBytesRow.laid w)/\sizedMet enc Tryz.prog Tryz.f3 (OpenSpec.ofChange Rows.playBytesSpec) false w args)
   (Rows.playBytesSpec.post enc Tryz.prog Tryz.f3 false true false false):=by
 refine Go.Sx.returns_and_shaped (C:=Tryz.checked) (X:=λw _=>laidMetH Tryz.prog Rows.playBytesRow.laid w) (λ_ _ _ hh h=>h.of_heap hh) own started (by kernel_rfl) Tryz.func3
  (ChangeSpec.witness_shaped (enc:=enc) (C:=Tryz.checked) (os:=os) (X:=λw _=>laidMetH Tryz.prog Rows.playBytesRow.laid w) false (World.doorLaid Tryz.prog 400 os) #[.slice none 0 0,.slice none 0 0,.slice none 0 0] 8 rfl (World.shaped_of_RefB (by kernel_rfl) (by kernel_rfl)) (by kernel_rfl) (by kernel_rfl) (by kernel_rfl) (door_met os _)) ?_
 intro W base args ds gs before hval0 hW hL hshape
 obtain ⟨m,hm⟩:=cell_of_shapedOpen_int (P:=Tryz.prog) (g:=1) (t:=3) (zero:= #[.int .i64 0]) hshape (of_decide_eq_true (by kernel_rfl)) (by kernel_rfl) rfl (by kernel_rfl) (by kernel_rfl) Tryz.underlying3
 have hval:∀(j:Nat) t v,Tryz.f3.params[j]? =some t->args[j]? =some v->Value.okWide Tryz.prog W .any base t v:=hval0
 have hW':=hW
 obtain ⟨p,q,hA0,hV,rfl,hfz,hnd⟩:=hW
 have hA:DataW.TrodAll enc Tryz.prog W 0 (λ_=>true) true Tryz.f3.params.toList args.toList ds p:=hA0
 rw [Tryz.params3]at hA hval
 obtain ⟨v0,vs0,d0,ds0,p0,q0,hargs,rfl,hp0,h0,r0⟩:=trodAll_cons hA
 obtain ⟨v1,vs1,d1,ds1,p1,q1,rfl,rfl,hp1,h1,r1⟩:=trodAll_cons r0
 obtain ⟨v2,vs2,d2,ds2,p2,q2,rfl,rfl,hp2,h2,r2⟩:=trodAll_cons r1
 obtain ⟨rfl,rfl,rfl⟩:=trodAll_nil r2
 obtain rfl:args= #[v0,v1,v2]:=by cases args;simp_all
 obtain ⟨rfl,rfl⟩:=trodVars_none hV
 obtain ⟨l0,x0,sl0,pl0,m0,c0⟩:=vars.arg_u8s (hval 0 22 v0 rfl rfl) h0 (ps:=.cell 1 0::p) (λx hx=>List.mem_cons_of_mem _ (by rw [hp0,hp1,hp2];simp [hx]))
 obtain ⟨l1,x1,sl1,pl1,m1,c1⟩:=vars.arg_gsts (hval 1 23 v1 rfl rfl) h1 (ps:=.cell 1 0::p) (λx hx=>List.mem_cons_of_mem _ (by rw [hp0,hp1,hp2];simp [hx]))
 obtain ⟨l2,x2,sl2,pl2,m2,c2⟩:=vars.arg_u8s (hval 2 22 v2 rfl rfl) h2 (ps:=.cell 1 0::p) (λx hx=>List.mem_cons_of_mem _ (by rw [hp0,hp1,hp2];simp [hx]))
 simp only [List.append_nil]at hW'
 refine (vars.walkPlayBytes (W:=W) (p:=p) hm l0 x0 sl0 pl0 m0 c0 l1 x1 sl1 pl1 m1 c1 l2 x2 sl2 pl2 m2 c2).mono λe W' ⟨he,hg⟩=>?_
 subst he
 exact ⟨_,rfl,Go.Sx.post_own (pa:=p) (pv:=[]) hW' (λ_ _ _=>(trodAll_cons_mk (shut_bool Tryz.underlying4 _) trodAll_mk0)) (λsp hsp=>Go.Sx.trodAll_again (d:=8) hg (by kernel_rfl) hA0 (λx hx=>hW'.lt x hx) hsp) (λ_ _=>rfl) (List.append_nil p).symm
  (World.keptBut_mono (λ_ f=>f.elim) hg.1) hg.2.1 (ok_one (by kernel_rfl) rfl (okWide_bool_mk Tryz.underlying4 _))⟩
theorem closed:joinedFacts Tryz.pinned.checked.prog 3 Tryz.f3 Rows.playBytesSpec Rows.playBytesRow=true:=by
 unfold joinedFacts
 rw [k10,k11,k12,k13]
 kernel_rfl
theorem over:Rows.playBytesRow.holds Tryz.pinned (OpenSpec.ofChange Rows.playBytesSpec):=
 OpenClaim.holds_of_wide 3 Tryz.f3 rfl rfl rfl rfl rfl rfl rfl ⟨rfl,rfl,rfl,rfl,rfl⟩ rfl rfl rfl rfl rfl (by kernel_rfl) Tryz.func3 closed
  (of_decide_eq_true (by kernel_rfl)) (by unfold Func.isWrapper;first|(rw [if_pos (by decide +kernel)];kernel_rfl)|(rw [if_neg (by decide +kernel)];exact ⟨rfl,rfl⟩))
  (λos started H enc _=>lifted os started H enc)
theorem proved:Rows.PlayBytesCardSaid:=
 Claim7.holds_tied_plain_at .later [] [.data,.data,.data] true (true,"24d6e7de7090341f9831a0b8b7045539a9bfd3b589d70979a4fd1a8bfda87587") true
  over (λ_ h=>by cases h) k14 (λ_ h=>by cases h) playBytes_row_tie rfl ⟨rfl,rfl⟩ k15 rfl
  (λf fn hf hfn=>by
   obtain rfl:f=3:=Option.some.inj (k18.symm.trans hf) |>.symm
   obtain rfl:fn=Tryz.f3:=(Option.some.inj (Tryz.func3.symm.trans hfn)).symm
   exact ⟨k16,λj t ht=>by
    rw [Tryz.params3]at ht
    rcases j with _|_|_|j
    ·simp at ht;subst ht;kernel_rfl
    ·simp at ht;subst ht;kernel_rfl
    ·simp at ht;subst ht;kernel_rfl
    ·simp at ht;done⟩)
  k17
#print axioms proved
end Go.Proofs.YtmgenobllanmjaaGreatDoor.playBytes
