/-
  A state is an instance of a template: then it is known by the template.
-/
import Derived.Test.YtjconanknjgpnaaGreatSyH
set_option linter.unusedVariables false
set_option linter.unusedSimpArgs false
namespace Go.Sx
theorem nthA_eq:∀(l:List AV) (n:Nat),nthA n l=l[n]?
 |[],n=>by cases n<;>rfl
 |a::r,0=>rfl
 |a::r,n+1=>by simp [nthA,nthA_eq r n]
structure MEnv (H:AHeap) (ds:List DA) (rn:List (Nat×Nat)) (hv:List AV) (n:Nat) (E E':Env):Prop where
 phi:∀id a,findN rn id=some a->E'.φ id=E.φ a
 sz:E'.sz=E.sz
 imm:E'.imm=E.imm
 low:∀i,i<n->E'.sy i=E.sy i
 hole:∀j x,nthA j hv=some x->symOk x=true/\E'.sy (n+j)=some (den E.sy x)/\(den E.sy x).one=true
 acc:∀id d i,findA' ds id=some d->d.act=some i->den E.sy d.x≠ .nsl->E'.φ id=E.φ i
 val:∀id d,findA' ds id=some d->nthA d.j hv=some d.x
theorem accOf_con {E:Env} {H:AHeap} {sz:Nat} {a x:AV} {act:Option Nat} {v:Value} (h:accOf H sz a=some (x,act)) (hc:Con E a v):
  (v=.slice none 0 0/\den E.sy x=.nsl)\/∃i len cs,act=some i/\den E.sy x=.vsl len sz cs/\∃b o n c off',E.φ i=some (b,o)/\E.sz b=some n/\v=.slice (some ⟨b,o+off',none⟩) len c/\(c≠0->off'=0)/\len<=c/\o+c*sz<=n:=by
 unfold accOf at h
 split at h
 ·cases h
  simp only [Con]at hc
  exact .inl ⟨hc,rfl⟩
 ·rename_i id sz' i
  split at h
  ·split at h
   ·rename_i hb
    cases h
    obtain ⟨e1,e2⟩:=and_split hb
    have e2:=Nat.eq_of_beq_eq_true e2
    subst e2
    simp only [Con]at hc
    obtain ⟨a,h1,⟨rfl,h2⟩|⟨len,cs,rfl,h2⟩⟩:=hc
    ·exact .inl ⟨h2,by simp only [den,h1]⟩
    ·
     exact .inr ⟨id,len,cs,rfl,by simp only [den,h1],h2⟩
   ·cases h
  ·cases h
 ·rename_i id off len sz' cap
  split at h
  ·rename_i cs0 hk
   split at h
   case h_2=>cases h
   rename_i cs htk
   split at h
   ·rename_i hb
    cases h
    obtain ⟨e1,hb⟩:=and_split hb
    obtain ⟨e2,hb⟩:=and_split hb
    have e1:=Nat.eq_of_beq_eq_true e1
    have e2:=Nat.eq_of_beq_eq_true e2
    subst e1 e2
    simp only [Con]at hc
    obtain ⟨b,o,nn,c,off',q1,q2,q3,q4,q5,q6,_⟩:=hc
    exact .inr ⟨id,len,_,rfl,by simp only [den];rfl,b,o,nn,c,off',q1,q2,q3,q4,q5,by simpa using q6⟩
   ·cases h
  ·cases h
 ·cases h
theorem optB_eq {a b:Option Nat} (h:optB a b=true):a=b:=by
 unfold optB at h
 split at h
 ·rfl
 ·rw [Nat.eq_of_beq_eq_true h]
 ·cases h
theorem MEnv.con0 {H:AHeap} {ds:List DA} {rn:List (Nat×Nat)} {hv:List AV} {n:Nat} {E E':Env} (h:MEnv H ds rn hv n E E') {a:AV} {v:Value} (hc:Con0 E a v):Con0 E' a v:=con0_imm (λ_ _ _ hx=>by rw [h.imm];exact hx) hc
mutual
theorem mA_ok {H:AHeap} {ds:List DA} {rn:List (Nat×Nat)} {hv:List AV} {n:Nat} {E E':Env} (h:MEnv H ds rn hv n E E'):∀{t a:AV} {v:Value},mA H ds rn hv n t a=true->Con E a v->Con E' (instA n t) v
 | .opq,_,_,_,_=>by simp [instA,Con]
 | .slx j z q,a,v,hm,hc=>by
   unfold mA at hm
   unfold instA
   cases z with
   |zero=>
    simp only at hm⊢
    split at hm
    ·rename_i x hx
     have:=beqA_eq hm
     subst this
     obtain ⟨h1,h2,h3⟩:=h.hole _ _ hx
     simp only [Con]
     exact ⟨_,h2,h3,h.con0 (den_con0 h1 hc)⟩
    ·cases hm
   |succ z=>
    simp only at hm⊢
    split at hm
    ·rename_i d hd
     split at hm
     ·rename_i x act hacc
      obtain ⟨e1,hm⟩:=and_split hm
      obtain ⟨e2,hm⟩:=and_split hm
      obtain ⟨e3,e4⟩:=and_split hm
      have e2:=Nat.eq_of_beq_eq_true e2
      have e3:=beqA_eq e3
      have e4:=optB_eq e4
      have hval:=h.val _ _ hd
      obtain ⟨_,h2,_⟩:=h.hole _ _ hval
      simp only [Con]
      refine ⟨_,by rw [←e2];exact h2,?_⟩
      rcases accOf_con hacc hc with ⟨k1,k2⟩|⟨i,len,cs,k1,k2,b,o,nn,c,off',q1,q2,q3,q4,q5,q6⟩
      ·rw [e3];exact .inl ⟨k2,k1⟩
      ·rw [e3]
       refine .inr ⟨len,cs,k2,b,o,nn,c,off',?_,by rw [h.sz];exact q2,q3,q4,q5,q6⟩
       rw [h.acc _ _ _ hd (e4.trans k1) (by rw [e3,k2];intro e;cases e)]
       exact q1
     ·cases hm
    ·cases hm
 | .sym i,a,v,hm,hc=>by
   unfold mA at hm
   obtain ⟨h1,h2⟩:=and_split hm
   have:=beqA_eq h2
   subst this
   have hi:i<n:=by simpa [Nat.blt_eq]using h1
   simp only [instA,Con]at hc⊢
   obtain ⟨a,q1,q2,q3⟩:=hc
   exact ⟨a,by rw [h.low i hi];exact q1,q2,h.con0 q3⟩
 | .ptr id off,a,v,hm,hc=>by
   unfold mA at hm
   split at hm
   ·obtain ⟨h1,h2⟩:=and_split hm
    have h2:=Nat.eq_of_beq_eq_true h2
    subst h2
    simp only [instA,Con]at hc⊢
    rw [h.phi id _ (optB_eq h1)];exact hc
   ·cases hm
 | .sl id off len sz cap,a,v,hm,hc=>by
   unfold mA at hm
   split at hm
   ·rename_i id' off' len' sz' cap'
    obtain ⟨h1,hm⟩:=and_split hm
    obtain ⟨e2,hm⟩:=and_split hm
    obtain ⟨e3,hm⟩:=and_split hm
    obtain ⟨e4,e5⟩:=and_split hm
    have e2:=Nat.eq_of_beq_eq_true e2
    have e3:=Nat.eq_of_beq_eq_true e3
    have e4:=Nat.eq_of_beq_eq_true e4
    subst e2 e3 e4
    simp only [instA,Con]at hc⊢
    rw [h.phi id _ (optB_eq h1),h.sz]
    obtain ⟨b,o,nn,c,off',q1,q2,q3,q4,q5,q6,q7⟩:=hc
    refine ⟨b,o,nn,c,off',q1,q2,q3,q4,q5,q6,λk hk=>?_⟩
    subst hk
    simp only [Option.isNone_some,Bool.false_or,beq_iff_eq]at e5
    exact q7 k e5.symm
   ·cases hm
 | .agg ts,a,v,hm,hc=>by
   unfold mA at hm
   split at hm
   ·simp only [instA,Con]at hc⊢
    obtain ⟨vs,rfl,h2⟩:=hc
    exact ⟨vs,rfl,mL_ok h hm h2⟩
   ·cases hm
 | .tup ts,a,v,hm,hc=>by
   unfold mA at hm
   split at hm
   ·simp only [instA,Con]at hc⊢
    obtain ⟨vs,rfl,h2⟩:=hc
    exact ⟨vs,rfl,mL_ok h hm h2⟩
   ·cases hm
 | .vptr ts,a,v,hm,hc=>by
   unfold mA at hm
   split at hm
   ·simp only [instA,Con]at hc⊢
    obtain ⟨b,o,vs,h1,h2,h3⟩:=hc
    exact ⟨b,o,vs,h1,mL_ok h hm h2,λi u hu=>by rw [h.imm];exact h3 i u hu⟩
   ·cases hm
 | .vsl len sz ts,a,v,hm,hc=>by
   unfold mA at hm
   split at hm
   ·obtain ⟨e1,hm1⟩:=and_split hm
    obtain ⟨e2,hm2⟩:=and_split hm1
    have e3:=Nat.eq_of_beq_eq_true e1
    subst e3
    simp only [instA,Con]at hc⊢
    obtain ⟨b,o,vs,c,h1,h2,h3,h4⟩:=hc
    exact ⟨b,o,vs,c,h1,h2,mL_ok h hm2 h3,λi u hu=>by rw [h.imm];exact h4 i u hu⟩
   ·cases hm
 | .fn f ts,a,v,hm,hc=>by
   unfold mA at hm
   split at hm
   ·obtain ⟨e1,hm1⟩:=and_split hm
    have e2:=Nat.eq_of_beq_eq_true e1
    subst e2
    simp only [instA,Con]at hc⊢
    obtain ⟨vs,h1,h2⟩:=hc
    exact ⟨vs,h1,mL_ok h hm1 h2⟩
   ·cases hm
 | .iface t x,a,v,hm,hc=>by
   unfold mA at hm
   split at hm
   ·obtain ⟨e1,hm1⟩:=and_split hm
    have e2:=Nat.eq_of_beq_eq_true e1
    subst e2
    simp only [instA,Con]at hc⊢
    obtain ⟨u,h1,h2⟩:=hc
    exact ⟨u,h1,mA_ok h hm1 h2⟩
   ·cases hm
 | .ptx id i sz _,a,v,hm,hc=>by
   unfold mA at hm
   split at hm
   ·obtain ⟨h1,hm⟩:=and_split hm
    obtain ⟨e1,hm⟩:=and_split hm
    obtain ⟨e2,e3⟩:=and_split hm
    have e1:=Nat.eq_of_beq_eq_true e1
    have e2:=Nat.eq_of_beq_eq_true e2
    subst e1 e2
    have hi:i<n:=by simpa [Nat.blt_eq]using e3
    simp only [instA,Con]at hc⊢
    rw [h.phi id _ (optB_eq h1),h.sz,h.low i hi]
    exact hc
   ·cases hm
 | .map id,a,v,hm,hc=>by
   unfold mA at hm
   split at hm
   ·simp only [instA,Con]at hc⊢
    rw [h.phi id _ (optB_eq hm)];exact hc
   ·cases hm
 | .bool b,a,v,hm,hc=>by
   have:=beqA_eq (a:=.bool b) (b:=a) (by simpa [mA]using hm)
   subst this;simpa [instA,Con]using hc
 | .int k b,a,v,hm,hc=>by
   have:=beqA_eq (a:=.int k b) (b:=a) (by simpa only [mA]using hm)
   subst this;simpa [instA,Con]using hc
 | .flt k b,a,v,hm,hc=>by
   have:=beqA_eq (a:=.flt k b) (b:=a) (by simpa only [mA]using hm)
   subst this;simpa [instA,Con]using hc
 | .nan k,a,v,hm,hc=>by
   have:=beqA_eq (a:=.nan k) (b:=a) (by simpa only [mA]using hm)
   subst this;simpa [instA,Con]using hc
 | .str s,a,v,hm,hc=>by
   have:=beqA_eq (a:=.str s) (b:=a) (by simpa only [mA]using hm)
   subst this;simpa [instA,Con]using hc
 | .nptr,a,v,hm,hc=>by
   have:=beqA_eq (a:=.nptr) (b:=a) (by simpa only [mA]using hm)
   subst this;simpa [instA,Con]using hc
 | .nsl,a,v,hm,hc=>by
   have:=beqA_eq (a:=.nsl) (b:=a) (by simpa only [mA]using hm)
   subst this;simpa [instA,Con]using hc
 | .nmap,a,v,hm,hc=>by
   have:=beqA_eq (a:=.nmap) (b:=a) (by simpa only [mA]using hm)
   subst this;simpa [instA,Con]using hc
 | .nfn,a,v,hm,hc=>by
   have:=beqA_eq (a:=.nfn) (b:=a) (by simpa only [mA]using hm)
   subst this;simpa [instA,Con]using hc
 | .nif,a,v,hm,hc=>by
   have:=beqA_eq (a:=.nif) (b:=a) (by simpa only [mA]using hm)
   subst this;simpa [instA,Con]using hc
theorem mL_ok {H:AHeap} {ds:List DA} {rn:List (Nat×Nat)} {hv:List AV} {n:Nat} {E E':Env} (h:MEnv H ds rn hv n E E'):∀{ts as:List AV} {vs:List Value},mL H ds rn hv n ts as=true->ConL E as vs->ConL E' (instL n ts) vs
 |[],[],vs,hm,hc=>by simpa [instL,ConL]using hc
 |t::ts,a::r,vs,hm,hc=>by
  simp only [mL]at hm
  obtain ⟨h1,h2⟩:=and_split hm
  simp only [ConL]at hc
  simp only [instL,ConL]
  obtain ⟨v,q,e,c1,c2⟩:=hc
  exact ⟨v,q,e,mA_ok h h1 c1,mL_ok h h2 c2⟩
 |[],_::_,_,hm,_=>by simp [mL]at hm
 |_::_,[],_,hm,_=>by simp [mL]at hm
end
theorem instT_con {H:AHeap} {ds:List DA} {rn:List (Nat×Nat)} {hv:List AV} {n:Nat} {E E':Env} (h:MEnv H ds rn hv n E E') {T:Tm} {tmps:Array Value} (hc:∀t,t<512->Con E (tget T t) (tmps.getD t undef)):
  ∀(slots:List (Nat×AV)),mT H ds rn hv n T slots=true->∀t,t<512->Con E' (tget (instT n slots) t) (tmps.getD t undef)
 |[],_,t,ht=>by
  show Con E' (tget topq t) _
  rw [tget_topq];simp [Con]
 |(s,a)::r,hm,t,ht=>by
  simp only [mT]at hm
  obtain ⟨h1,hm⟩:=and_split hm
  obtain ⟨h2,hm⟩:=and_split hm
  have h1:s<512:=by simpa [Nat.blt_eq]using h1
  show Con E' (tget (tset (instT n r) s (instA n a)) t) _
  by_cases e:s=t
  ·subst e
   rw [tget_tset_same _ ht]
   exact mA_ok h h2 (hc s ht)
  ·rw [tget_tset_ne _ ht h1 e]
   exact instT_con h hc r hm t ht
theorem instH_get {n next:Nat}:∀(rows:List (Nat×List AV)),(∀id cs,(id,cs)∈rows->id<top)->∀id k,(instH n next rows).get id=some k->∃cs,(id,cs)∈rows/\k=.cells (instL n cs)
 |[],_,id,k,h=>by
  have:(⟨hnil,next,top⟩:AHeap).get id=some k:=h
  rw [get_empty]at this;cases this
 |(i,c)::r,hlt,id,k,h=>by
  have h:((instH n next r).set i (.cells (instL n c))).get id=some k:=h
  have hi:=hlt i c (List.mem_cons_self ..)
  by_cases e:i=id
  ·subst e
   rw [AHeap.get_set_same _ hi]at h
   cases h
   exact ⟨c,List.mem_cons_self ..,rfl⟩
  ·rw [AHeap.get_set_ne _ hi e]at h
   obtain ⟨cs,h1,h2⟩:=instH_get r (λa b h=>hlt a b (List.mem_cons_of_mem _ h)) id k h
   exact ⟨cs,List.mem_cons_of_mem _ h1,h2⟩
theorem instH_next {n next:Nat}:∀rows,(instH n next rows).next=next/\(instH n next rows).hi=top
 |[]=>⟨rfl,rfl⟩
 |(i,c)::r=>instH_next r
theorem findN_mem:∀{l:List (Nat×Nat)} {i a:Nat},findN l i=some a->(i,a)∈l
 |[],i,a,h=>by cases h
 |(j,t)::r,i,a,h=>by
  unfold findN at h
  split at h
  ·rename_i hb
   cases h
   rw [Nat.eq_of_beq_eq_true hb];exact List.mem_cons_self ..
  ·exact List.mem_cons_of_mem _ (findN_mem h)
theorem mN_at {ds:List DA} {inv:List (Nat×Nat)} {next:Nat}:∀{rn:List (Nat×Nat)},mN ds inv next rn=true->∀id a,(id,a)∈rn->id<next/\id<top/\findN inv a=some id/\findA' ds id=none
 |[],_,id,a,h=>by cases h
 |(i,q)::r,hm,id,a,h=>by
  simp only [mN]at hm
  obtain ⟨h1,hm⟩:=and_split hm
  obtain ⟨h2,hm⟩:=and_split hm
  obtain ⟨h3,hm⟩:=and_split hm
  obtain ⟨h4,hm⟩:=and_split hm
  rcases List.mem_cons.1 h with h|h
  ·cases h
   exact ⟨by simpa [Nat.blt_eq]using h1,by simpa [Nat.blt_eq]using h2,optB_eq h3,by simpa using h4⟩
  ·exact mN_at hm id a h
theorem mH_at {ds:List DA} {rn:List (Nat×Nat)} {hv:List AV} {n:Nat} {H:AHeap}:∀(rows:List (Nat×List AV)),mH ds rn hv n H rows=true->∀id cs,(id,cs)∈rows->∃a l,findN rn id=some a/\H.get a=some (.cells l)/\mL H ds rn hv n cs l=true
 |[],_,id,cs,h=>by cases h
 |(i,c)::r,hm,id,cs,h=>by
  simp only [mH]at hm
  obtain ⟨h1,hm⟩:=and_split hm
  rcases List.mem_cons.1 h with h|h
  ·cases h
   split at h1
   ·rename_i a ha
    split at h1
    ·rename_i l hl
     exact ⟨a,l,ha,hl,h1⟩
    ·cases h1
   ·cases h1
  ·exact mH_at r hm id cs h
theorem mD_at {inv:List (Nat×Nat)} {hv:List AV} {next:Nat}:∀{ds:List DA},mD inv hv next ds=true->∀d,d∈ds->d.id<next/\d.id<top/\nthA d.j hv=some d.x/\∀i,d.act=some i->findN inv i=some d.id
 |[],_,d,h=>by cases h
 |q::r,hm,d,h=>by
  simp only [mD]at hm
  obtain ⟨h1,hm⟩:=and_split hm
  obtain ⟨h2,hm⟩:=and_split hm
  obtain ⟨h3,hm⟩:=and_split hm
  obtain ⟨h4,hm⟩:=and_split hm
  rcases List.mem_cons.1 h with rfl|h
  ·refine ⟨by simpa [Nat.blt_eq]using h1,by simpa [Nat.blt_eq]using h2,?_,λi hi=>?_⟩
   ·split at h3
    ·rename_i y hy
     rw [hy,beqA_eq h3]
    ·cases h3
   ·rw [hi]at h4;exact optB_eq h4
  ·exact mD_at hm d h
theorem mM_at {rn:List (Nat×Nat)} {hv:List AV} {H:AHeap}:∀(ms:List (Nat×Nat)),mM rn hv H ms=true->∀id j,(id,j)∈ms->∃a x,findN rn id=some a/\mapOf H a=some x/\nthA j hv=some x
 |[],_,id,j,h=>by cases h
 |(i,q)::r,hm,id,j,h=>by
  simp only [mM]at hm
  obtain ⟨h1,hm⟩:=and_split hm
  rcases List.mem_cons.1 h with h|h
  ·cases h
   split at h1
   ·rename_i a ha
    split at h1
    ·rename_i x hx
     split at h1
     ·rename_i y hy
      exact ⟨a,x,ha,hx,by rw [hy,beqA_eq h1]⟩
     ·cases h1
    ·cases h1
   ·cases h1
  ·exact mM_at r hm id j h
theorem symF_old (n:Nat) {i:Nat} (h:Nat.blt i bigF=true):symF n i=i:=by
 unfold symF;rw [h]
theorem symF_hole (n:Nat) {i:Nat} (h:Nat.blt i bigF=false):symF n i=n+holeF i:=by
 unfold symF;rw [h];exact Nat.add_eq
inductive FixAt (hv:List AV) (n s:Nat):ABlk->Prop where
 |old (h:s<n):FixAt hv n s (.syl s)
 |sym (j i:Nat) (h:s=n+j) (hj:nthA j hv=some (.sym i)):FixAt hv n s (.syl i)
 |cells (j len z:Nat) (cs:List AV) (h:s=n+j) (hj:nthA j hv=some (.vsl len z cs)) (hl:cs.length=len*z) (hs:symOkL cs=true):FixAt hv n s (.cells cs)
theorem mF_at {rn:List (Nat×Nat)} {hv:List AV} {n:Nat} {H:AHeap}:∀(ms:List (Nat×Nat)),mF rn hv n H ms=true->∀id i,(id,i)∈ms->∃a k,findN rn id=some a/\H.get a=some k/\FixAt hv n (symF n i) k
 |[],_,id,j,h=>by cases h
 |(i,q)::r,hm,id,j,h=>by
  simp only [mF]at hm
  obtain ⟨h1,hm⟩:=and_split hm
  rcases List.mem_cons.1 h with h|h
  ·cases h
   split at h1
   ·rename_i a ha
    split at h1
    ·rename_i x hx
     split at h1
     ·rename_i hb
      obtain ⟨h0,h1⟩:=and_split h1
      have h1:=Nat.eq_of_beq_eq_true h1
      have h0:q<n:=by simpa [Nat.blt_eq]using h0
      refine ⟨a,_,ha,hx,?_⟩
      rw [symF_old n hb,h1]
      exact .old (by omega)
     ·rename_i hb
      split at h1
      ·rename_i y hy
       have:=beqA_eq h1
       subst this
       exact ⟨a,_,ha,hx,.sym (holeF q) x (symF_hole n hb) hy⟩
      ·cases h1
    ·rename_i cs hx
     split at h1
     ·cases h1
     ·rename_i hb
      split at h1
      ·rename_i y hy
       unfold isCells at h1
       split at h1
       ·rename_i len z cs'
        obtain ⟨e1,h1⟩:=and_split h1
        obtain ⟨e2,h1⟩:=and_split h1
        obtain ⟨e3,_⟩:=and_split h1
        have:=beqL_eq e1
        subst this
        have e2:=Nat.eq_of_beq_eq_true e2
        rw [lenA_eq]at e2
        exact ⟨a,_,ha,hx,.cells (holeF q) len z _ (symF_hole n hb) hy e2 e3⟩
       ·cases h1
      ·cases h1
    ·cases h1
   ·cases h1
  ·exact mF_at r hm id j h
theorem findA'_mem:∀{ds:List DA} {id:Nat} {d:DA},findA' ds id=some d->d∈ds/\d.id=id
 |[],id,d,h=>by cases h
 |q::r,id,d,h=>by
  unfold findA' at h
  split at h
  ·rename_i hb
   cases h
   exact ⟨List.mem_cons_self ..,Nat.eq_of_beq_eq_true hb⟩
  ·obtain ⟨h1,h2⟩:=findA'_mem h
   exact ⟨List.mem_cons_of_mem _ h1,h2⟩
theorem accL_at {T:Tm} {H:AHeap} {rn:List (Nat×Nat)}:∀{ts:List TA} {ds:List DA},accL T H rn ts=some ds->∀d,d∈ds->∃t a,t∈ts/\t.id=d.id/\t.j=d.j/\locOf T H rn t=some a/\accOf H d.sz a=some (d.x,d.act)
 |[],ds,h,d,hd=>by cases h;cases hd
 |t::r,ds,h,d,hd=>by
  unfold accL at h
  split at h
  ·rename_i a ha
   split at h
   ·rename_i x act hx
    split at h
    ·rename_i l hl
     cases h
     rcases List.mem_cons.1 hd with rfl|hd
     ·exact ⟨t,a,List.mem_cons_self ..,rfl,rfl,ha,hx⟩
     ·obtain ⟨t',a',h0,h1⟩:=accL_at hl d hd
      exact ⟨t',a',List.mem_cons_of_mem _ h0,h1⟩
    ·cases h
   ·cases h
  ·cases h
theorem instS_get {n:Nat} {T:Tm} {H H0:AHeap} {rn:List (Nat×Nat)}:∀{ts:List TA} {ds:List DA},accL T H rn ts=some ds->(∀d,d∈ds->d.id<top)->∀id k,(instS n H0 ts).get id=some k->(findA' ds id=none/\H0.get id=some k)\/∃d,findA' ds id=some d/\k=.syl (n+d.j)
 |[],ds,h,hlt,id,k,hk=>by cases h;exact .inl ⟨rfl,hk⟩
 |t::r,ds,h,hlt,id,k,hk=>by
  unfold accL at h
  split at h
  ·rename_i a ha
   split at h
   ·rename_i x act hx
    split at h
    ·rename_i l hl
     cases h
     have ht:t.id<top:=hlt _ (List.mem_cons_self ..)
     unfold instS at hk
     by_cases e:t.id=id
     ·subst e
      rw [AHeap.get_set_same _ ht]at hk
      cases hk
      exact .inr ⟨⟨t.id,t.sz,t.j,x,act⟩,by unfold findA';simp only [Nat.beq_refl],rfl⟩
     ·rw [AHeap.get_set_ne _ ht e]at hk
      have hb:Nat.beq t.id id=false:=by
       cases hb:Nat.beq t.id id with
       |true=>exact absurd (Nat.eq_of_beq_eq_true hb) e
       |false=>rfl
      have:=instS_get hl (λd hd=>hlt d (List.mem_cons_of_mem _ hd)) id k hk
      unfold findA'
      simp only [hb]
      exact this
    ·cases h
   ·cases h
  ·cases h
theorem instS_next {n:Nat} {H0:AHeap}:∀ts:List TA,(instS n H0 ts).next=H0.next/\(instS n H0 ts).hi=H0.hi
 |[]=>⟨rfl,rfl⟩
 |t::r=>instS_next r
theorem instM_get {n:Nat} {H0:AHeap}:∀(ms:List (Nat×Nat)),(∀id j,(id,j)∈ms->id<top)->∀id k,(instM n H0 ms).get id=some k->(∃j,(id,j)∈ms/\k=.mpl (n+j))\/H0.get id=some k
 |[],_,id,k,h=>.inr h
 |(i,q)::r,hlt,id,k,h=>by
  have h:((instM n H0 r).set i (.mpl (Nat.add n q))).get id=some k:=h
  have hi:=hlt i q (List.mem_cons_self ..)
  by_cases e:i=id
  ·subst e
   rw [AHeap.get_set_same _ hi]at h
   cases h
   exact .inl ⟨q,List.mem_cons_self ..,rfl⟩
  ·rw [AHeap.get_set_ne _ hi e]at h
   rcases instM_get r (λa b h=>hlt a b (List.mem_cons_of_mem _ h)) id k h with ⟨j,h1,h2⟩|h
   ·exact .inl ⟨j,List.mem_cons_of_mem _ h1,h2⟩
   ·exact .inr h
theorem instM_next {n:Nat} {H0:AHeap}:∀ms:List (Nat×Nat),(instM n H0 ms).next=H0.next/\(instM n H0 ms).hi=H0.hi
 |[]=>⟨rfl,rfl⟩
 |(i,q)::r=>instM_next r
theorem instF_get {n:Nat} {H0:AHeap}:∀(ms:List (Nat×Nat)),(∀id j,(id,j)∈ms->id<top)->∀id k,(instF n H0 ms).get id=some k->(∃j,(id,j)∈ms/\k=.syl (symF n j))\/H0.get id=some k
 |[],_,id,k,h=>.inr h
 |(i,q)::r,hlt,id,k,h=>by
  have h:((instF n H0 r).set i (.syl (symF n q))).get id=some k:=h
  have hi:=hlt i q (List.mem_cons_self ..)
  by_cases e:i=id
  ·subst e
   rw [AHeap.get_set_same _ hi]at h
   cases h
   exact .inl ⟨q,List.mem_cons_self ..,rfl⟩
  ·rw [AHeap.get_set_ne _ hi e]at h
   rcases instF_get r (λa b h=>hlt a b (List.mem_cons_of_mem _ h)) id k h with ⟨j,h1,h2⟩|h
   ·exact .inl ⟨j,List.mem_cons_of_mem _ h1,h2⟩
   ·exact .inr h
theorem instF_next {n:Nat} {H0:AHeap}:∀ms:List (Nat×Nat),(instF n H0 ms).next=H0.next/\(instF n H0 ms).hi=H0.hi
 |[]=>⟨rfl,rfl⟩
 |(i,q)::r=>instF_next r
theorem Tpl.heap_next (tp:Tpl) (n:Nat):(tp.heap n).next=tp.next/\(tp.heap n).hi=top:=by
 unfold Tpl.heap
 obtain ⟨a1,a2⟩:=instF_next (n:=n) (H0:=instM n (instS n (instH n tp.next tp.rows) tp.acc) tp.maps) tp.fix
 obtain ⟨b1,b2⟩:=instM_next (n:=n) (H0:=instS n (instH n tp.next tp.rows) tp.acc) tp.maps
 obtain ⟨c1,c2⟩:=instS_next (n:=n) (H0:=instH n tp.next tp.rows) tp.acc
 obtain ⟨d1,d2⟩:=instH_next (n:=n) (next:=tp.next) tp.rows
 exact ⟨by rw [a1,b1,c1,d1],by rw [a2,b2,c2,d2]⟩
theorem mL_len {H:AHeap} {ds:List DA} {rn:List (Nat×Nat)} {hv:List AV} {n:Nat}:∀{ts as:List AV},mL H ds rn hv n ts as=true->as.length=ts.length
 |[],[],_=>rfl
 |t::ts,a::r,h=>by
  simp only [mL]at h
  simp [mL_len (and_split h).2]
 |[],_::_,h=>by simp [mL]at h
 |_::_,[],h=>by simp [mL]at h
theorem instL_len (n:Nat):∀l:List AV,(instL n l).length=l.length
 |[]=>rfl
 |a::r=>by simp [instL,instL_len n r]
theorem denL_len (s:Nat->Option AV):∀l:List AV,(denL s l).length=l.length
 |[]=>rfl
 |a::r=>by simp [denL,denL_len s r]
theorem denL_at (s:Nat->Option AV):∀(l:List AV) (i:Nat) (a:AV),l[i]? =some a->(denL s l)[i]? =some (den s a)
 |[],i,a,h=>by simp at h
 |b::r,0,a,h=>by simp at h;subst h;rfl
 |b::r,i+1,a,h=>by simpa [denL]using denL_at s r i a (by simpa using h)
theorem symOkL_at:∀{l:List AV},symOkL l=true->∀(i:Nat) (a:AV),l[i]? =some a->symOk a=true
 |[],_,i,a,h=>by simp at h
 |b::r,hs,i,a,h=>by
  simp only [symOkL]at hs
  cases hb:symOk b with
  |true=>
   rw [hb]at hs
   cases i with
   |zero=>simp at h;subst h;exact hb
   |succ i=>exact symOkL_at hs i a (by simpa using h)
  |false=>rw [hb]at hs;cases hs
theorem holes_len:∀(acc:List (Nat×AV)) (j m:Nat) (l:List AV),holes acc j m=some l->l.length=m
 |acc,j,0,l,h=>by cases h;rfl
 |acc,j,m+1,l,h=>by
  unfold holes at h
  split at h
  ·split at h
   ·rename_i l' hl
    cases h
    simp [holes_len acc _ m _ hl]
   ·cases h
  ·cases h
def Ext (n:Nat) (Y Y':Sy):Prop:=∀i,i<n->Y'.v i=Y.v i
theorem Ext.refl (n:Nat) (Y:Sy):Ext n Y Y:=λ_ _=>rfl
theorem Ext.trans {n m:Nat} {Y Y' Y'':Sy} (h:Ext n Y Y') (h':Ext m Y' Y'') (hn:n<=m):Ext n Y Y'':=λi hi=>(h' i (by omega)).trans (h i hi)
theorem Ext.puts:∀{Y:Sy} {n:Nat} (l:List AV) (m:Nat),m<=n->Ext m Y (Y.puts n l)
 |Y,n,[],m,h=>λ_ _=>rfl
 |Y,n,a::r,m,h=>λi hi=>by
  have:=Ext.puts (Y:=Y.put n a) (n:=n+1) r m (by omega) i hi
  exact this.trans (Sy.put_ne _ _ (by omega))
theorem Ext.put {Y:Sy} {n:Nat} (a:AV) {m:Nat} (h:m<=n):Ext m Y (Y.put n a):=λi hi=>Sy.put_ne _ _ (by omega)
variable [Gl]
def isNsl:AV->Bool
 | .nsl=>true
 |_=>false
omit [Gl]in
theorem noD_eq {D:Dfs} (h:noD D=true):D=[]:=by
 cases D with
 |nil=>rfl
 |cons _ _=>cases h
def menv (m:MR) (E:Env) (Y:Sy) (bim:Nat->Nat->Option Value):Env where
 φ id:=match findA' m.ds id with
   |some d=>match isNsl (den E.sy d.x)with
    |true=>none
    |false=>match d.act with
     |some i=>E.φ i
     |none=>none
   |none=>match findN m.rn id with
    |some a=>E.φ a
    |none=>none
 sz:=E.sz
 imm:=E.imm
 res id:=(∃d,findA' m.ds id=some d/\isNsl (den E.sy d.x)=true)\/∃a,findA' m.ds id=none/\findN m.rn id=some a/\E.vd a
 bim:=bim
 sy:=Y.v
 syl:=Y.l
 vd id:=(∃d,findA' m.ds id=some d/\isNsl (den E.sy d.x)=true)\/∃a,findA' m.ds id=none/\findN m.rn id=some a/\E.vd a
def mown (m:MR) (own:Nat->Option Nat):Nat->Option Nat:=λb=>match own b with
 |some i=>findN m.inv i
 |none=>none
omit [Gl]in
theorem nsl_false {x:AV} (hx:x≠ .nsl):isNsl x=false:=by cases x<;>first|rfl|exact absurd rfl hx
structure MCore (n:Nat) (tp:Tpl) (T:Tm) (E E':Env) (own:Nat->Option Nat) (w:World) (m:MR):Prop where
 len:(denL E.sy m.hv).length=tp.nv
 slots:∀tmps:Array Value,(∀t,t<512->Con E (tget T t) (tmps.getD t undef))->∀t,t<512->Con E' (tget (instT n tp.slots) t) (tmps.getD t undef)
 rows:∀id k,(tp.heap n).get id=some k->RowAt E' w (mown m own) id k
 fresh:∀id,tp.next<=id->E'.φ id=none
 vd:∀id,E'.vd id->E'.φ id=none/\id<tp.next
 next:tp.next<=top
 acc:∀d,d∈m.ds->∃t,t∈tp.acc/\t.id=d.id/\t.j=d.j/\nthA d.j m.hv=some d.x
 inj:∀i j a,(findN m.rn i=some a\/∃d,findA' m.ds i=some d/\d.act=some a)->(findN m.rn j=some a\/∃d,findA' m.ds j=some d/\d.act=some a)->i=j
 rnA:∀i a,findN m.rn i=some a->findA' m.ds i=none
 accN:∀d a,d∈m.ds->d.act=some a->isNsl (den E.sy d.x)=true->E.φ a=none
omit [Gl]in
theorem match_core {n:Nat} {tp:Tpl} {T:Tm} {H:AHeap} {m:MR} {Y0:Sy} {E:Env} {w:World} {own:Nat->Option Nat} (hm:matchR n tp T H=some m) (hf:Fresh Y0 n) (hx:∀i,i<n->E.sy i=Y0.v i) (hok:okL (denL E.sy m.hv)=true)
  (g1:∀id k,H.get id=some k->RowAt E w own id k) (hvd:∀id,E.vd id->E.φ id=none) (bim:Nat->Nat->Option Value):MCore n tp T E (menv m E (Y0.puts n (denL E.sy m.hv)) bim) own w m:=by
 unfold matchR at hm
 simp only at hm
 split at hm
 ·cases hm
 rename_i ds hds
 split at hm
 ·cases hm
 rename_i msl hms
 split at hm
 ·cases hm
 rename_i hv hh
 split at hm
 case h_2=>cases hm
 rename_i hb
 cases hm
 generalize hrn:rnOf tp T H=rn at*
 obtain ⟨b1,hb⟩:=and_split hb
 obtain ⟨b2,hb⟩:=and_split hb
 obtain ⟨b3,hb⟩:=and_split hb
 obtain ⟨b4,hb⟩:=and_split hb
 obtain ⟨b5,hb⟩:=and_split hb
 obtain ⟨b6,hb⟩:=and_split hb
 obtain ⟨b7,hb⟩:=and_split hb
 obtain ⟨b8,b9⟩:=and_split hb
 have hN:=mN_at b4
 have hmap:=mM_at tp.maps b7
 have hrow:=mH_at tp.rows b5
 have hacc:=mD_at b6
 have hfix:=mF_at tp.fix b8
 have b9:=Nat.le_of_ble_eq_true b9
 let Y':=Y0.puts n (denL E.sy hv)
 let E':Env:=menv ⟨rn,ds,hv⟩ E Y' bim
 have hphiN:∀id a,findN rn id=some a->E'.φ id=E.φ a:=λid a h=>by
  show (match findA' ds id with
   |some d=>_
   |none=>match findN rn id with
    |some a=>E.φ a
    |none=>none)=_
  rw [(hN id a (findN_mem h)).2.2.2,h]
 have hme:MEnv H ds rn hv n E E':={
  phi:=hphiN
  sz:=rfl
  imm:=rfl
  low:=λi hi=>by
   show Y'.v i=E.sy i
   rw [hx i hi]
   exact Ext.puts (denL E.sy hv) n (Nat.le_refl n) i hi
  hole:=λj x hj=>by
   rw [nthA_eq]at hj
   have h1:=symOkL_at b1 j x hj
   have h2:=denL_at E.sy hv j x hj
   exact ⟨h1,puts_at (denL E.sy hv) hf j _ h2,okC_one (okL_mem hok _ (List.mem_of_getElem? h2))⟩
  acc:=λid d i h1 h2 h3=>by
   show (match findA' ds id with
    |some d=>match isNsl (den E.sy d.x)with
     |true=>none
     |false=>match d.act with
      |some i=>E.φ i
      |none=>none
    |none=>_)=_
   rw [h1]
   simp only [nsl_false h3,h2]
  val:=λid d h=>(hacc d (findA'_mem h).1).2.2.1 }
 have hconC:∀id d i,findA' ds id=some d->d.act=some i->den E.sy d.x≠ .nsl->∃b o,E.φ i=some (b,o)/\own b=some i/\BlkAt E' w b o (.syl (n+d.j)):=by
  intro id d i h1 h2 h3
  have hdm:=(findA'_mem h1).1
  obtain ⟨_,_,hval,_⟩:=hacc d hdm
  obtain ⟨hs1,hs2,hs3⟩:=hme.hole _ _ hval
  obtain ⟨t,a',_,_,_,_,ha2⟩:=accL_at hds d hdm
  have hxok:okC (den E.sy d.x)=true:=by
   rw [nthA_eq]at hval
   exact okL_mem hok _ (List.mem_of_getElem? (denL_at E.sy hv d.j d.x hval))
  rw [h2]at ha2
  unfold accOf at ha2
  split at ha2
  ·simp at ha2
  ·rename_i id' sz' i'
   split at ha2
   ·rename_i k hk
    split at ha2
    ·rename_i hbb
     simp only [Option.some.injEq,Prod.mk.injEq]at ha2
     obtain ⟨hdx,rfl⟩:=ha2
     obtain ⟨e1,e2⟩:=and_split hbb
     have e1:=Nat.eq_of_beq_eq_true e1
     subst e1
     obtain ⟨_,hv2⟩|⟨b,o,q1,q2,len,sz'',cs,q3,q4,arr,t',q5,q6,q7,q8⟩:=g1 _ _ hk
     ·exfalso
      apply h3
      have hv2:E.sy k=some .nsl:=hv2
      rw [←hdx];simp only [den,hv2]
     ·refine ⟨b,o,q1,q2,len,sz'',cs,?_,q4,arr,t',q5,q6,q7,λq x hq=>?_⟩
      ·rw [hs2,←hdx];simp only [den,q3]
      ·obtain ⟨u,k1,k2,k3⟩:=q8 q x hq
       exact ⟨u,k1,k2,hme.con0 k3⟩
    ·cases ha2
   ·cases ha2
  ·rename_i id' off len sz' cap _
   split at ha2
   ·rename_i cs0 hk
    split at ha2
    case h_2=>cases ha2
    rename_i cs htk
    have htk2:=(takeEx_eq htk).1
    split at ha2
    ·rename_i hbb
     simp only [Option.some.injEq,Prod.mk.injEq]at ha2
     obtain ⟨hdx,rfl⟩:=ha2
     obtain ⟨e1,hbb⟩:=and_split hbb
     obtain ⟨e2,hbb⟩:=and_split hbb
     obtain ⟨e3,hbb⟩:=and_split hbb
     obtain ⟨e4,hbb⟩:=and_split hbb
     obtain ⟨e5,e6⟩:=and_split hbb
     have e4:=Nat.eq_of_beq_eq_true e4
     rw [lenA_eq]at e4
     obtain ⟨_,hv2⟩|⟨b,o,q1,q2,arr,t',q5,q6,q7,q8⟩:=g1 _ _ hk
     ·exact hv2.elim
     ·rw [←hdx]at hxok
      simp only [den,okC]at hxok
      refine ⟨b,o,q1,q2,len,d.sz,denL E.sy cs,?_,by rw [denL_len];exact e4,arr,t',q5,q6,by
       rw [denL_len,htk2,List.length_take]
       have:=Nat.min_le_right (Nat.mul len d.sz) cs0.length
       omega,λq x hq=>?_⟩
      ·rw [hs2,←hdx];rfl
      ·rw [denL_get]at hq
       cases hcq:cs[q]? with
       |none=>rw [hcq]at hq;cases hq
       |some y=>
        rw [hcq]at hq
        simp only [Option.map_some,Option.some.injEq]at hq
        subst hq
        have hcq0:cs0[q]? =some y:=by
         rw [htk2,List.getElem?_take]at hcq
         split at hcq
         ·exact hcq
         ·cases hcq
        obtain ⟨u,k1,k2⟩:=q8 q y hcq0
        have hmem2:(denL E.sy cs)[q]? =some (den E.sy y):=by rw [denL_get,hcq];rfl
        exact ⟨u,k1,okC_one (okL_mem hxok _ (List.mem_of_getElem? hmem2)),hme.con0 (den_con0 (symOkL_at e5 q y hcq) k2)⟩
    ·cases ha2
   ·cases ha2
  ·cases ha2
 have hinvN:∀id a,findN rn id=some a->findN (MR.mk rn ds hv).inv a=some id:=λid a h=>(hN id a (findN_mem h)).2.2.1
 have hown:∀b i id,own b=some i->findN (MR.mk rn ds hv).inv i=some id->mown ⟨rn,ds,hv⟩ own b=some id:=λb i id h1 h2=>by
  unfold mown;rw [h1];exact h2
 refine { len:=by rw [denL_len];exact holes_len _ _ _ _ hh,slots:=λtmps hc=>instT_con hme hc tp.slots b3,rows:=λid k hk=>?_,fresh:=λid hid=>?_,vd:=λid hi=>?_,next:=b9,acc:=λd hd=>?_,inj:=λi j a hi hj=>?_,rnA:=λi a h=>(hN i a (findN_mem h)).2.2.2,accN:=λd a hd hda hnil=>?_ }
 ·rcases instF_get tp.fix (λa b h=>by obtain ⟨a',_,h1,_⟩:=hfix a b h;exact (hN _ _ (findN_mem h1)).2.1) id k hk with ⟨j,hj,rfl⟩|hk
  ·obtain ⟨a,k',ha,hk,hj⟩:=hfix id j hj
   have hphi:=hphiN id a ha
   have hs:∀i',H.get a=some (.syl i')->(∀x,E.sy i'=some x->E'.sy (symF n j)=some x)->RowAt E' w (mown ⟨rn,ds,hv⟩ own) id (.syl (symF n j)):=λi' hk hsj=>by
    obtain ⟨hv1,hv2⟩|⟨b,o,e1,e2,len,sz,cs,e3,e4,arr,t,e5,e6,e7,e8⟩:=g1 a _ hk
    ·exact .inl ⟨.inr ⟨a,(hN id a (findN_mem ha)).2.2.2,ha,hv1⟩,hsj _ hv2⟩
    ·exact .inr ⟨b,o,hphi.trans e1,hown _ _ _ e2 (hinvN _ _ ha),len,sz,cs,hsj _ e3,e4,arr,t,e5,e6,e7,λi x hi=>by
      obtain ⟨u,k1,k2,k3⟩:=e8 i x hi
      exact ⟨u,k1,k2,hme.con0 k3⟩⟩
   cases hj with
   |old hlt=>exact hs _ hk λx hx=>by rw [hme.low _ hlt,hx]
   |sym q i' e hq=>
    obtain ⟨_,h2,_⟩:=hme.hole _ _ hq
    exact hs _ hk λx hx=>by
     rw [e,h2]
     simp only [den,hx]
   |cells q len z cs e hq hl hso=>
    obtain ⟨_,h2,_⟩:=hme.hole _ _ hq
    have hxok:okL (denL E.sy cs)=true:=by
     rw [nthA_eq]at hq
     have:=okL_mem hok _ (List.mem_of_getElem? (denL_at E.sy hv q _ hq))
     simpa only [den,okC]using this
    obtain ⟨_,hv2⟩|⟨b,o,e1,e2,arr,t',q5,q6,q7,q8⟩:=g1 _ _ hk
    ·exact hv2.elim
    ·refine .inr ⟨b,o,hphi.trans e1,hown _ _ _ e2 (hinvN _ _ ha),len,z,denL E.sy cs,by rw [e,h2];rfl,by rw [denL_len];exact hl,arr,t',q5,q6,by rw [denL_len];exact q7,λq x hq=>?_⟩
     rw [denL_get]at hq
     cases hcq:cs[q]? with
     |none=>rw [hcq]at hq;cases hq
     |some y=>
      rw [hcq]at hq
      simp only [Option.map_some,Option.some.injEq]at hq
      subst hq
      obtain ⟨u,k1,k2⟩:=q8 q y hcq
      have hmem2:(denL E.sy cs)[q]? =some (den E.sy y):=by rw [denL_get,hcq];rfl
      exact ⟨u,k1,okC_one (okL_mem hxok _ (List.mem_of_getElem? hmem2)),hme.con0 (den_con0 (symOkL_at hso q y hcq) k2)⟩
  rcases instM_get tp.maps (λa b h=>by obtain ⟨a',_,h1,_⟩:=hmap a b h;exact (hN _ _ (findN_mem h1)).2.1) id k hk with ⟨j,hj,rfl⟩|hk
  ·obtain ⟨a,x,ha,hx',hval⟩:=hmap id j hj
   obtain ⟨hs1,hs2,_⟩:=hme.hole _ _ hval
   have hphi:=hphiN id a ha
   unfold mapOf at hx'
   split at hx'
   ·rename_i es clock hk
    split at hx'
    ·rename_i hso
     cases hx'
     obtain ⟨_,hv2⟩|⟨b,o,e1,e2,e0,es',e3,e4⟩:=g1 a _ hk
     ·exact hv2.elim
     ·refine .inr ⟨b,o,hphi.trans e1,hown _ _ _ e2 (hinvN _ _ ha),e0,lenE es,denL E.sy (flatE es),by rw [hs2];rfl,es',clock,e3,?_,(collapseE hso e4).imp λ_ _ hc=>hme.con0 hc⟩
      rw [lenE_con e4,Array.length_toList]
    ·cases hx'
   ·rename_i i hk
    cases hx'
    obtain ⟨_,hv2⟩|⟨b,o,e1,e2,e0,n',cs',f3,es',c0,f4,f5,f6⟩:=g1 a _ hk
    ·exact hv2.elim
    ·exact .inr ⟨b,o,hphi.trans e1,hown _ _ _ e2 (hinvN _ _ ha),e0,n',cs',by rw [hs2];simp only [den,f3],es',c0,f4,f5,f6.imp λ_ _ hc=>hme.con0 hc⟩
   ·cases hx'
  rcases instS_get hds (λd hd=>(hacc d hd).2.1) id k hk with ⟨hfn,hk⟩|⟨d,hd,rfl⟩
  ·obtain ⟨cs,h1,rfl⟩:=instH_get tp.rows (λa b h=>by obtain ⟨a',_,h1,_⟩:=hrow a b h;exact (hN _ _ (findN_mem h1)).2.1) id k hk
   obtain ⟨a,l,ha,h3,h4⟩:=hrow id cs h1
   obtain ⟨_,hv2⟩|⟨b,o,e1,e2,arr,t,e3,e4,e5,e6⟩:=g1 a _ h3
   ·exact hv2.elim
   refine .inr ⟨b,o,(hphiN id a ha).trans e1,hown _ _ _ e2 (hinvN _ _ ha),arr,t,e3,e4,?_,λi x hx'=>?_⟩
   ·rw [instL_len,←mL_len h4];exact e5
   ·have hLen:l.length=cs.length:=mL_len h4
    have hL:ConL E l ((arr.toList.drop o).take l.length):=by
     refine ConL.of_at ?_ λq y u hq hu=>?_
     ·simp only [List.length_take,List.length_drop,Array.length_toList];omega
     ·obtain ⟨u',f1,f2⟩:=e6 q y hq
      rw [List.getElem?_take]at hu
      split at hu
      ·rw [List.getElem?_drop,Array.getElem?_toList,f1]at hu
       cases hu;exact f2
      ·cases hu
    obtain ⟨u,f1,f2⟩:=(mL_ok hme h4 hL).at i x hx'
    refine ⟨u,?_,f2⟩
    rw [List.getElem?_take]at f1
    split at f1
    ·rwa [List.getElem?_drop,Array.getElem?_toList]at f1
    ·cases f1
  ·obtain ⟨hdm,hdi⟩:=findA'_mem hd
   obtain ⟨_,_,hval,hin⟩:=hacc d hdm
   obtain ⟨_,hs2,_⟩:=hme.hole _ _ hval
   by_cases hnil:den E.sy d.x=.nsl
   ·refine .inl ⟨.inl ⟨d,hd,by rw [hnil];rfl⟩,?_⟩
    show E'.sy (n+d.j)=some .nsl
    rw [hs2,hnil]
   ·obtain ⟨t,a',_,_,_,_,ha2⟩:=accL_at hds d hdm
    have hact:∃i,d.act=some i:=by
     cases hact:d.act with
     |some i=>exact ⟨i,rfl⟩
     |none=>
      rw [hact]at ha2
      unfold accOf at ha2
      split at ha2
      ·simp only [Option.some.injEq,Prod.mk.injEq]at ha2
       exact absurd (by rw [←ha2.1];rfl) hnil
      ·split at ha2
       ·split at ha2
        ·simp at ha2
        ·cases ha2
       ·cases ha2
      ·split at ha2
       ·split at ha2
        case h_2=>cases ha2
        split at ha2
        ·simp at ha2
        ·cases ha2
       ·cases ha2
      ·cases ha2
    obtain ⟨i,hi⟩:=hact
    obtain ⟨b,o,q1,q2,q3⟩:=hconC id d i hd hi hnil
    exact .inr ⟨b,o,(hme.acc id d i hd hi hnil).trans q1,hown _ _ _ q2 (by rw [hin i hi,hdi]),q3⟩
 ·show (match findA' ds id with
    |some d=>_
    |none=>match findN rn id with
     |some a=>E.φ a
     |none=>none)=none
  cases hfd:findA' ds id with
  |some d=>
   obtain ⟨hdm,hdi⟩:=findA'_mem hfd
   have:=(hacc d hdm).1
   omega
  |none=>
   simp only
   cases hfn:findN rn id with
   |none=>rfl
   |some a=>
    have:=(hN id a (findN_mem hfn)).1
    omega
 ·rcases hi with ⟨d,hd,hdn⟩|⟨a,hfa,ha,hva⟩
  ·have hd:findA' ds id=some d:=hd
   obtain ⟨hdm,hdi⟩:=findA'_mem hd
   refine ⟨?_,by rw [←hdi];exact (hacc d hdm).1⟩
   show (match findA' ds id with
    |some d=>match isNsl (den E.sy d.x)with
     |true=>none
     |false=>match d.act with
      |some i=>E.φ i
      |none=>none
    |none=>_)=none
   rw [hd];simp only [hdn]
  ·exact ⟨(hphiN id a ha).trans (hvd a hva),(hN id a (findN_mem ha)).1⟩
 ·obtain ⟨t,_,h0,h1,h2,_⟩:=accL_at hds d hd
  exact ⟨t,h0,h1,h2,(hacc d hd).2.2.1⟩
 ·have key:∀i,(findN rn i=some a\/∃d,findA' ds i=some d/\d.act=some a)->findN (MR.mk rn ds hv).inv a=some i:=λi h=>by
    rcases h with h|⟨d,h1,h2⟩
    ·exact hinvN i a h
    ·obtain ⟨hdm,hdi⟩:=findA'_mem h1
     rw [(hacc d hdm).2.2.2 a h2,hdi]
  have h1:=key i hi
  rw [key j hj]at h1
  cases h1;rfl
 ·obtain ⟨t,a',_,_,_,_,ha2⟩:=accL_at hds d hd
  rw [hda]at ha2
  unfold accOf at ha2
  split at ha2
  ·simp at ha2
  ·split at ha2
   ·rename_i k hk
    split at ha2
    ·rename_i hbb
     simp only [Option.some.injEq,Prod.mk.injEq]at ha2
     obtain ⟨hdx,rfl⟩:=ha2
     have e1:=Nat.eq_of_beq_eq_true (and_split hbb).1
     subst e1
     rcases g1 _ _ hk with ⟨q1,_⟩|⟨b,o,q1,q2,len,sz'',cs,q3,_⟩
     ·exact hvd _ q1
     ·rw [←hdx]at hnil
      simp only [den,q3]at hnil
      cases hnil
    ·cases ha2
   ·cases ha2
  ·split at ha2
   ·split at ha2
    case h_2=>cases ha2
    split at ha2
    ·simp only [Option.some.injEq,Prod.mk.injEq]at ha2
     rw [←ha2.1]at hnil
     cases hnil
    ·cases ha2
   ·cases ha2
  ·cases ha2
omit [Gl]in
theorem lowN_at {ds:List DA} {rn:List (Nat×Nat)}:∀{k:Nat},lowN ds rn k=true->∀i,i<k->findN rn i=some i\/(findN rn i=none/\∃d,findA' ds i=some d/\d.act=some i)
 |0,_,i,hi=>absurd hi (Nat.not_lt_zero _)
 |k+1,h,i,hi=>by
  simp only [lowN]at h
  obtain ⟨h1,h2⟩:=and_split h
  rcases Nat.lt_or_ge i k with hlt|hge
  ·exact lowN_at h2 i hlt
  ·have:i=k:=by omega
   subst this
   split at h1
   ·rename_i a ha
    rw [Nat.eq_of_beq_eq_true h1]at ha
    exact .inl ha
   ·rename_i hn
    split at h1
    ·rename_i d hd
     exact .inr ⟨hn,d,hd,optB_eq h1⟩
    ·cases h1
omit [Gl]in
theorem nnL_at {k:Nat} {hv:List AV}:∀{ts:List TA} {l:List Nat},nnL k hv ts=some l->∀t,t∈ts->t.id<k->(∃i,nthA t.j hv=some (.sym i)/\i∈l)\/∃n z cs,nthA t.j hv=some (.vsl n z cs)
 |[],l,h,t,ht,_=>by cases ht
 |q::r,l,h,t,ht,hk=>by
  unfold nnL at h
  split at h
  ·cases h
  rename_i l' hl
  rcases List.mem_cons.1 ht with rfl|ht
  ·split at h
   ·rename_i hb
    have:Nat.blt t.id k=true:=by simpa [Nat.blt_eq]using hk
    rw [this]at hb;cases hb
   ·split at h
    ·rename_i i hi
     cases h
     exact .inl ⟨i,hi,List.mem_cons_self ..⟩
    ·rename_i a b c hi
     exact .inr ⟨a,b,c,hi⟩
    ·cases h
  ·have ih:=nnL_at hl t ht hk
   split at h
   ·cases h;exact ih
   ·split at h
    ·cases h
     exact ih.imp (λ⟨i,h1,h2⟩=>⟨i,h1,List.mem_cons_of_mem _ h2⟩) id
    ·cases h;exact ih
    ·cases h
theorem match_weak {P:Program} {N n lv k:Nat} {tp:Tpl} {S:VS} {mt:MT} {Y0 Y:Sy} (hm:matchT n k tp S=some mt) (hf:Fresh Y0 n) (hx:Ext n Y0 Y) (hok:okL (denL Y.v mt.hv)=true) (hnn:∀i,i∈mt.nn->(Chk.nn i).ok Y):
  (denL Y.v mt.hv).length=tp.nv/\Weak P N k Y S.T S.H S.D (Y0.puts n (denL Y.v mt.hv)) (tp.inst n lv).T (tp.inst n lv).H []:=by
 unfold matchT at hm
 split at hm
 ·cases hm
 rename_i b0
 split at hm
 ·cases hm
 rename_i m hmr
 split at hm
 ·cases hm
 rename_i hlow
 split at hm
 ·cases hm
 rename_i nl hnl
 cases hm
 have hD:=noD_eq b0
 rw [hD]
 have hlen:(denL Y.v m.hv).length=tp.nv:=by
  unfold matchR at hmr
  simp only at hmr
  split at hmr
  ·cases hmr
  split at hmr
  ·cases hmr
  split at hmr
  ·cases hmr
  rename_i hv hh
  split at hmr
  ·cases hmr
   rw [denL_len];exact holes_len _ _ _ _ hh
  ·cases hmr
 refine ⟨hlen,λB pr E a w hy st=>?_⟩
 have hsyE:E.sy=Y.v:=hy.v
 obtain ⟨own,g1,g2,g3⟩:=st.r.own
 have hc:=match_core (w:=w) (own:=own) hmr hf (λi hi=>by rw [hsyE];exact hx i hi) (by rw [hsyE];exact hok) g1 (λid h=>(st.r.resv id (st.r.vds id h)).1) E.bim
 rw [hsyE]at hc
 obtain ⟨p1,p2,p3,p4⟩:=hf.puts (denL Y.v m.hv)
 let E':Env:=menv m E (Y0.puts n (denL Y.v m.hv)) E.bim
 have hphi:∀i x,i<k->E.φ i=some x->E'.φ i=some x:=λi x hi hφ=>by
  rcases lowN_at hlow i hi with h|⟨h,d,hd,hda⟩
  ·have:=hc.rnA i i h
   show (match findA' m.ds i with
    |some d=>_
    |none=>match findN m.rn i with
     |some a=>E.φ a
     |none=>none)=_
   rw [this,h];exact hφ
  ·obtain ⟨hdm,hdi⟩:=findA'_mem hd
   obtain ⟨t,t1,t2,t3,t4⟩:=hc.acc d hdm
   have hne:den E.sy d.x≠ .nsl:=by
    rcases nnL_at hnl t t1 (by rw [t2,hdi];exact hi)with ⟨i',q1,q2⟩|⟨a1,a2,a3,q1⟩
    ·rw [t3,t4]at q1
     have e:=Option.some.inj q1
     obtain ⟨a1,a2,a3,q3⟩:=hnn i' q2
     rw [hsyE,e]
     simp only [den,q3]
     exact λh=>by cases h
    ·rw [t3,t4]at q1
     have e:=Option.some.inj q1
     rw [e]
     simp only [den]
     exact λh=>by cases h
   show (match findA' m.ds i with
    |some d=>match isNsl (den E.sy d.x)with
     |true=>none
     |false=>match d.act with
      |some i=>E.φ i
      |none=>none
    |none=>_)=_
   rw [hd]
   simp only [nsl_false hne,hda]
   exact hφ
 have hle:E.leF k E':=⟨λi x hi h=>hphi i x hi h,λ_ _ h=>h,λ_ _ _ h=>h,rfl,λi hi=>by
  show (Y0.puts n (denL Y.v m.hv)).v i=E.sy i
  rw [hsyE,hx i (by have:=hf.1;omega)]
  exact p4 i hi⟩
 refine ⟨E',hle,⟨rfl,rfl,λ_ h=>h⟩,⟨st.t.size,st.t.le,hc.slots a.tmps st.t.con,st.t.gl.leF hle⟩,?_,st.d⟩
 obtain ⟨n1,n2⟩:=Tpl.heap_next tp n
 refine { own:=⟨mown m own,hc.rows,λb hb=>by unfold mown;simp only [g2 b hb],λb o v hv=>by unfold mown;simp only [g3 b o v hv]⟩,imm:=st.r.imm,ib:=st.r.ib,fresh:=λid h1 h2=>hc.fresh id (n1▸h1),resv:=λid hi=>?_,vds:=λ_ h=>h,szs:=st.r.szs,prot:=st.r.prot,size:=st.r.size,os:=st.r.os,output:=st.r.output }
 obtain ⟨h1,h2⟩:=hc.vd id hi
 refine ⟨h1,λhx=>?_⟩
 have:(tp.heap n).next<=id:=hx.1
 rw [n1]at this
 omega
end Go.Sx
