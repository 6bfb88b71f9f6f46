/-
  PlayBytes, as its arguments come.
-/
import Derived.Test.YtmgenobllanmjaaGreatDoorR6
import Derived.Test.YtmgenobllanmjaaGreatDoorFA
import Derived.Test.YtmgenobllanmjaaGreatDoorSzF
set_option maxRecDepth 100000
set_option linter.unusedVariables false
set_option linter.unusedSimpArgs false
namespace Go.Proofs.YtmgenobllanmjaaGreatDoor.vars
open Go Go.Sx
theorem zR_ {r:List AV} (h:Fit2 Tryz.prog 27 r):∃v:FV,r=u_ v/\F64 v:=by
 obtain ⟨parts,rfl,hl,hp⟩:=qU_ Tryz.underlying27 h;have hl:parts.length=3:=hl
 match parts,hl with
 |[p0,p1,p2],_=>have h0:Fit2 Tryz.prog 3 p0:=hp 0 _ p0 rfl rfl;have h1:Fit2 Tryz.prog 2 p1:=hp 1 _ p1 rfl rfl;have h2:Fit2 Tryz.prog 25 p2:=hp 2 _ p2 rfl rfl;obtain ⟨k,rfl,_⟩:=ue_ Tryz.underlying3 (h0.to (d:=0) (by kernel_rfl));obtain ⟨i,rfl,_⟩:=ue_ Tryz.underlying2 (h1.to (d:=0) (by kernel_rfl));obtain ⟨f,rfl,hf⟩:=ud_ Tryz.underlying25 (h2.to (d:=0) (by kernel_rfl));have hf:f<18446744073709551616:=(by simpa [Lit.wf]using hf);exact ⟨⟨k,i,some f⟩,rfl,λn hn=>by injection hn with hn;omega⟩
theorem zS_ {r:List AV} (h:Fit2 Tryz.prog 22 r):∃b:SV a_ 1,r=[b.x]:=by rcases ry_ Tryz.underlying22 h with rfl|⟨rows,h1,_,rfl⟩;exact ⟨SV.nil,rfl⟩;obtain ⟨l,k1,k2,_⟩:=wC_ (enc:=a_) (q:=λ_=>True) (λr hr=>yx_ hr) rows h1;have hc:Tryz.prog.cellsOf 5=1:=(by kernel_rfl);exact ⟨⟨l,jW_ a_ 1 l,SlV.v l⟩,by rw [hc,k1,←k2];rfl⟩
theorem zf_ {r:List AV} (h:Fit2 Tryz.prog 29 r):∃s:GSt,r=i_ s/\F64 s.v:=by
 obtain ⟨parts,rfl,hl,hp⟩:=qU_ Tryz.underlying29 h;have hl:parts.length=5:=hl
 match parts,hl with
 |[p0,p1,p2,p3,p4],_=>have h0:Fit2 Tryz.prog 3 p0:=hp 0 _ p0 rfl rfl;have h1:Fit2 Tryz.prog 3 p1:=hp 1 _ p1 rfl rfl;have h2:Fit2 Tryz.prog 2 p2:=hp 2 _ p2 rfl rfl;obtain ⟨b,rfl⟩:=zS_ (show Fit2 Tryz.prog 22 p3 from hp 3 _ p3 rfl rfl);obtain ⟨v,rfl,hv⟩:=zR_ (show Fit2 Tryz.prog 27 p4 from hp 4 _ p4 rfl rfl);obtain ⟨k,rfl,_⟩:=ue_ Tryz.underlying3 (h0.to (d:=0) (by kernel_rfl));obtain ⟨a,rfl,_⟩:=ue_ Tryz.underlying3 (h1.to (d:=0) (by kernel_rfl));obtain ⟨n,rfl,_⟩:=ue_ Tryz.underlying2 (h2.to (d:=0) (by kernel_rfl));exact ⟨⟨k,a,n,b,v⟩,rfl,hv⟩
theorem arg_gsts {H:Type} {enc:TypeId×Value->H} {W:World} {base:Nat} {v:Value} {dd:DataW H} {p ps:List MemPlace} (hok:Value.okWide Tryz.prog W .any base 23 v)
  (h:DataW.Trod enc Tryz.prog W 0 (λ_=>true) true 23 v dd p) (hps:∀q,q∈p->q∈ps):∃(l:List GSt) (a:AV),SlV i_ 7 l a/\(∀s∈l,F64 s.v)/\l.length<=maxLen/\Con (fI_ (ew_ W ps)) a v:=by
 rcases uz_ (d:=5) Tryz.underlying23 (by kernel_rfl) hok h hps with rfl|⟨rows,h1,h2,h3,h4⟩;exact ⟨[],.nsl,.inr ⟨rfl,rfl⟩,(λs h=>by cases h),Nat.zero_le _,by simp only [Con]⟩;obtain ⟨l,k1,k2,k3⟩:=wC_ (enc:=i_) (q:=λs=>F64 s.v) (λr hr=>zf_ hr) rows h1;have hc:Tryz.prog.cellsOf 29=7:=(by kernel_rfl);refine ⟨l,jW_ i_ 7 l,.inl rfl,k3,by omega,?_⟩;have h4':=h4;rw [k1,hc,←k2]at h4';exact h4'
theorem q7 {b:List UInt8} {x:AV} (hb:SlV a_ 1 b x) {l:List GSt} {y:AV} (hy:SlV i_ 7 l y) (hF:∀s∈l,F64 s.v) {q:List UInt8} {z:AV} (hq:SlV a_ 1 q z) (m:q.length<=maxLen):iu_ Tryz.prog 3 [x,y,z] (.bool true):=by simp only [maxLen]at m;exact p3 hb hy hF ⟨hq,by omega⟩
end Go.Proofs.YtmgenobllanmjaaGreatDoor.vars
