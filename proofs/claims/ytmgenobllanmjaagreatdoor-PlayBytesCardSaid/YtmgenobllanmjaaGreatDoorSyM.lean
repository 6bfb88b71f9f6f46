/-
  Rows of symbolic length: slices that a function has by itself and that grow; what is frozen of them.
-/
import Derived.Test.YtmgenobllanmjaaGreatDoorSyE
set_option linter.unusedVariables false
set_option linter.unusedSimpArgs false
namespace Go.Sx
theorem du_ (s:Nat->Option AV):∀a b:List AV,ab_ s (a++b)=ab_ s a++ab_ s b
 |[],b=>rfl
 |x::r,b=>by simp [ab_,du_]
theorem a4_ (s:Nat->Option AV):∀l:List AV,(ab_ s l).length=l.length
 |[]=>rfl
 |a::r=>by simp [ab_,a4_ s r]
theorem cH_ (s:Nat->Option AV):∀(l:List AV) (i:Nat),(ab_ s l)[i]? =(l[i]?).map (den s)
 |[],i=>by simp [ab_]
 |b::r,0=>by simp [ab_]
 |b::r,i+1=>by simpa [ab_]using cH_ s r i
theorem jK_:∀{l:List AV},ad_ l=true->∀(i:Nat) (a:AV),l[i]? =some a->ae_ a=true
 |[],_,i,a,h=>by simp at h
 |b::r,hs,i,a,h=>by
  simp only [ad_]at hs;cases hb:ae_ b with
  |true=>
   rw [hb]at hs;cases i with
   |zero=>simp at h;subst h;exact hb
   |succ i=>exact jK_ hs i a (by simpa using h)
  |false=>rw [hb]at hs;cases hs
theorem dK_:∀{a b:List AV},ad_ a=true->ad_ b=true->ad_ (a++b)=true
 |[],b,_,h=>h
 |x::r,b,h,h'=>by
  simp only [ad_]at h;cases hb:ae_ x with
  |true=>rw [hb]at h;simp only [List.cons_append,ad_,hb];exact dK_ h h'
  |false=>rw [hb]at h;cases h
mutual
theorem au_:∀{l:List AV},okL l=true->ad_ l=true
 |[],_=>rfl
 |a::r,h=>by rw [a0_]at h;obtain ⟨h1,h2⟩:=aa_ h;simp only [ad_,qC_ a h1];exact au_ h2
theorem qC_:∀a:AV,okC a=true->ae_ a=true
 | .opq,h=>by simp [okC]at h
 | .bool _,_=>rfl
 | .int _ _,_=>rfl
 | .flt _ _,_=>rfl
 | .nan _,_=>rfl
 | .str _,_=>rfl
 | .nptr,_=>rfl
 | .ptr _ _,h=>by simp [okC]at h
 | .vptr cs,h=>by simp only [okC]at h;simp only [ae_];exact au_ h
 | .nsl,_=>rfl
 | .sl ..,h=>by simp [okC]at h
 | .vsl _ _ cs,h=>by simp only [okC]at h;simp only [ae_];exact au_ h
 | .nmap,_=>rfl
 | .map _,h=>by simp [okC]at h
 | .nfn,_=>rfl
 | .fn _ cs,h=>by simp only [okC]at h;simp only [ae_];exact au_ h
 | .nif,_=>rfl
 | .iface _ a,h=>by simp only [okC]at h;simp only [ae_];exact kV_ a h
 | .agg _,h=>by simp [okC]at h
 | .tup _,h=>by simp [okC]at h
 | .sym _,h=>by rfl
 | .slx ..,h=>by simp [okC]at h
 | .ptx ..,h=>by simp [okC]at h
theorem kV_:∀a:AV,okI a=true->ae_ a=true
 | .opq,h=>by simp [okI]at h
 | .bool _,_=>rfl
 | .int _ _,_=>rfl
 | .flt _ _,_=>rfl
 | .nan _,_=>rfl
 | .str _,_=>rfl
 | .nptr,_=>rfl
 | .ptr _ _,h=>by simp [okI]at h
 | .vptr cs,h=>by simp only [okI]at h;simp only [ae_];exact au_ h
 | .nsl,_=>rfl
 | .sl ..,h=>by simp [okI]at h
 | .vsl _ _ cs,h=>by simp only [okI]at h;simp only [ae_];exact au_ h
 | .nmap,_=>rfl
 | .map _,h=>by simp [okI]at h
 | .nfn,_=>rfl
 | .fn _ cs,h=>by simp only [okI]at h;simp only [ae_];exact au_ h
 | .nif,_=>rfl
 | .iface _ a,h=>by simp only [okI]at h;simp only [ae_];exact kV_ a h
 | .agg cs,h=>by simp only [okI]at h;simp only [ae_];exact au_ h
 | .tup _,h=>by simp [okI]at h
 | .sym _,h=>by rfl
 | .slx ..,h=>by simp [okI]at h
 | .ptx ..,h=>by simp [okI]at h
end
mutual
theorem h9_ {E:Env} {s:Nat->Option AV} (hs:∀i x,E.sy i=some x->s i=some x):∀{a:AV} {v:Value},Con E a v->den s a=den E.sy a
 | .opq,_,_=>rfl
 | .bool _,_,_=>rfl
 | .int _ _,_,_=>rfl
 | .flt _ _,_,_=>rfl
 | .nan _,_,_=>rfl
 | .str _,_,_=>rfl
 | .nptr,_,_=>rfl
 | .ptr _ _,_,_=>rfl
 | .vptr cs,v,h=>by simp only [Con]at h;obtain ⟨_,_,_,_,h2,_⟩:=h;simp only [den,cG_ hs h2]
 | .nsl,_,_=>rfl
 | .sl ..,_,_=>rfl
 | .vsl _ _ cs,v,h=>by simp only [Con]at h;obtain ⟨_,_,_,_,_,_,h2,_⟩:=h;simp only [den,cG_ hs h2]
 | .nmap,_,_=>rfl
 | .map _,_,_=>rfl
 | .nfn,_,_=>rfl
 | .fn _ cs,v,h=>by simp only [Con]at h;obtain ⟨_,_,h2⟩:=h;simp only [den,cG_ hs h2]
 | .nif,_,_=>rfl
 | .iface _ a,v,h=>by simp only [Con]at h;obtain ⟨_,_,h2⟩:=h;simp only [den,h9_ hs h2]
 | .agg cs,v,h=>by simp only [Con]at h;obtain ⟨_,_,h2⟩:=h;simp only [den,cG_ hs h2]
 | .tup cs,v,h=>by simp only [Con]at h;obtain ⟨_,_,h2⟩:=h;simp only [den,cG_ hs h2]
 | .sym i,v,h=>by grind [Con,den]
 | .slx ..,_,_=>rfl
 | .ptx ..,_,_=>rfl
theorem cG_ {E:Env} {s:Nat->Option AV} (hs:∀i x,E.sy i=some x->s i=some x):∀{l:List AV} {vs:List Value},ConL E l vs->ab_ s l=ab_ E.sy l
 |[],_,_=>rfl
 |a::r,vs,h=>by simp only [ConL]at h;obtain ⟨_,_,_,h1,h2⟩:=h;simp only [ab_,h9_ hs h1,cG_ hs h2]
end
section
variable {P:Program} {B:World} {pr:Nat->Prop} {E:Env} {H:AHeap} {w:World}
theorem Rel.expand (h:Rel B pr E H w) {id i len sz:Nat} {cs:List AV} (hk:H.get id=some (.syl i)) (hi:E.sy i=some (.vsl len sz cs)):Rel B pr E (H.set id (.cells cs)) w/\cs.length=len*sz:=by
 have hlt:=AHeap.get_lt hk;obtain ⟨own,g1,g2⟩:=h.own;have h0:∃b o,E.φ id=some (b,o)/\own b=some id/\BlkAt E w b o (.cells cs)/\cs.length=len*sz:=by
  obtain ⟨_,hv⟩|⟨b,o,h1,h2,len',sz',cs',e,hlen,arr,t,h3,h4,h5,h6⟩:=g1 id _ hk
  .have hv:E.sy i=some .nsl:=hv
   grind
  rw [hi]at e;cases e;refine ⟨b,o,h1,h2,⟨arr,t,h3,h4,h5,λj a ha=>?_⟩,hlen⟩;obtain ⟨v,q1,_,q2⟩:=h6 j a ha;exact ⟨v,q1,q2.con⟩
 obtain ⟨b,o,e1,e2,e3,e4⟩:=h0;refine ⟨{ own:=⟨own,λid' k' hk'=>?_,g2⟩,imm:=h.imm,ib:=h.ib,fresh:=h.fresh,resv:=h.resv,vds:=h.vds,szs:=h.szs,prot:=h.prot,size:=h.size,os:=h.os,output:=h.output },e4⟩;by_cases e:id=id';subst e;rw [AHeap.get_set_same H hlt]at hk';cases hk';exact .inr ⟨b,o,e1,e2,e3⟩
 grind [AHeap.get_set_ne]
theorem Rel.collapse (h:Rel B pr E H w) {id n len sz:Nat} {cells:List AV} (hk:H.get id=some (.cells cells)) (hs:ad_ cells=true) (hn:E.sy n=some (.vsl len sz (ab_ E.sy cells))) (hok:okL (ab_ E.sy cells)=true)
  (hlen:cells.length=len*sz):Rel B pr E (H.set id (.syl n)) w:=by
 have hlt:=AHeap.get_lt hk;obtain ⟨own,g1,g2⟩:=h.own;refine { own:=⟨own,λid' k' hk'=>?_,g2⟩,imm:=h.imm,ib:=h.ib,fresh:=h.fresh,resv:=h.resv,vds:=h.vds,szs:=h.szs,prot:=h.prot,size:=h.size,os:=h.os,output:=h.output };by_cases e:id=id'
 .subst e;rw [AHeap.get_set_same H hlt]at hk';cases hk';obtain ⟨_,hv⟩|⟨b,o,h1,h2,arr,t,h3,h4,h5,h6⟩:=g1 id _ hk;exact hv.elim
  .refine .inr ⟨b,o,h1,h2,len,sz,_,hn,by grind [a4_],arr,t,h3,h4,by rw [a4_];exact h5,λj a ha=>?_⟩
   grind [cH_,ba_,c1_,ao_,jK_]
 grind [AHeap.get_set_ne]
def Env.void (E:Env) (id:Nat):Env:={ E with res:=λi=>E.res i\/i=id,vd:=λi=>E.vd i\/i=id }
theorem Env.sub_void (E:Env) (id:Nat):E.sub (E.void id):=⟨λ_ _ h=>h,λ_ _ h=>h,λ_ _ _ h=>h,rfl,rfl⟩
theorem Rel.newVoid (h:Rel B pr E H w) (hr:H.room=true) {n:Nat} (hn:E.sy n=some .nsl):Rel B pr (E.void H.next) (H.push (.syl n)) w:=by obtain ⟨h1,h2,h3⟩:=Rel.room hr;obtain ⟨own,g1,g2⟩:=h.own;refine { own:=⟨own,λid k hk=>?_,g2⟩,imm:=h.imm,ib:=h.ib,fresh:=λid e1 e2=>h.fresh id (Nat.le_of_lt e1) e2,resv:=λid hi=>?_,vds:=λid hv=>hv.imp (h.vds id) (λe=>e),szs:=h.szs,prot:=h.prot,size:=h.size,os:=h.os,output:=h.output };by_cases e:H.next=id;subst e;rw [AHeap.get_push_same H h2]at hk;cases hk;exact .inl ⟨.inr rfl,hn⟩;rw [AHeap.get_push_ne H h2 e]at hk;exact (g1 id k hk).imp (λ_ h=>h) (λh=>⟨.inl h.1,h.2⟩) λb o _ q1 q2=>⟨q1,q2.sub (Env.sub_void E H.next) rfl⟩;rcases hi with hi|rfl;obtain ⟨q1,q2⟩:=h.resv id hi;exact ⟨q1,λhx=>q2 ⟨Nat.le_of_lt hx.1,hx.2⟩⟩;exact ⟨h.fresh _ (Nat.le_refl _) h1,λhx=>Nat.lt_irrefl _ hx.1⟩
theorem Rel.same (h:Rel B pr E H w) {H':AHeap} (hg:∀id k,H'.get id=some k->H.get id=some k) (hn:H'.next=H.next) (hh:H'.hi=H.hi):Rel B pr E H' w:=
 h.forget hg (by omega) (by omega)
theorem hg_:∀{a b:List AV},okL (a++b)=true->okL a=true/\okL b=true
 |[],b,h=>⟨rfl,h⟩
 |x::r,b,h=>by rw [List.cons_append,a0_]at h;obtain ⟨h1,h2⟩:=aa_ h;obtain ⟨h3,h4⟩:=hg_ h2;exact ⟨by rw [a0_,h1,h3];rfl,h4⟩
theorem cW_ {E':Env} {H0:AHeap} {X:List AV} {len sz n:Nat} {v:Value} (hle:E.sub E') (hrel:Rel B pr E' (H0.push (.cells X)) w) (hcon:Con E' (.sl H0.next 0 len sz none) v) (hroom:H0.next<top)
  (hX:ad_ X=true) (hn:E.sy n=some (.vsl len sz (ab_ E.sy X))) (hok:okL (ab_ E.sy X)=true) (hlen:X.length=len*sz):Rel B pr E' (H0.push (.syl n)) w/\Con E' (.slx H0.next sz n) v:=by
 have hsy:E'.sy=E.sy:=hle.2.2.2.1;have hn':E'.sy n=some (.vsl len sz (ab_ E'.sy X)):=by grind
 constructor
 .have:=hrel.collapse (AHeap.get_push_same H0 hroom _) hX hn' (by grind) hlen;refine this.same (λid k hk=>?_) rfl rfl
  grind [AHeap.get_push_same,AHeap.get_set_same,AHeap.get_push_ne,AHeap.get_set_ne]
 .simp only [Con]at hcon⊢
  grind
theorem oM_ (hr:Rel B pr E H w) {id sz i n m:Nat} {xa:AV} {l:List AV} {t tx ty e:TypeId} {info:TypeInfo} {z:Value} {dx:TypeDesc} {sv xv:Value} {a r:AV}
  (ht:P.underlying t=some (.slice e)) (hi:P.info? e=some info) (hz:info.zero=some z) (htx:P.underlying tx=some dx) (hnot:ef_ dx=true) (hzl:Nat.beq (aL_ (at_ z)) info.size=true) (hsz:info.size=sz)
  (hs:Con E (.slx id sz i) sv) (hx:Con E xa xv) (hk:H.get id=some (.syl i)) (hroom:H.room=true)
  (hm:aU_ xa=some m) (hl:∀H':AHeap,(∀j,j≠id->H'.get j=H.get j)->ak_ H' xa m sz=some l) (hone:bd_ l=true) (hlok:ad_ l=true)
  (hsi:E.sy i=some a) (hrr:iA_ sz info.bytes a m (ab_ E.sy l)=some r) (hrok:okC r=true) (hn:E.sy n=some r):
  ∃E' v w',(Builtin.append_ #[t,tx] ty #[sv,xv]).run P w=.ok v w'/\E.sub E'/\E'.bim=E.bim/\((∀id,E.res id->E.vd id)->∀id,E'.res id->E'.vd id)/\Rel B pr E' ((H.erase id).push (.syl n)) w'/\Con E' (.slx H.next sz n) v/\(0<m->E.le E'):=by
 subst hsz;obtain ⟨r1,r2,r3⟩:=Rel.room hroom;have hid:=AHeap.get_lt hk;unfold iA_ at hrr;split at hrr;cases hrr;rename_i hlen;have hlen:(ab_ E.sy l).length=m*info.size:=of_decide_eq_true hlen;rw [a4_]at hlen;have hlb:Nat.beq (aL_ l) (Nat.mul m info.size)=true:=by grind [ai_,Nat.beq_refl]
 have hsp:=hs;obtain ⟨a',e1,hsp⟩:=hsp;rw [hsi]at e1;cases e1;have heg:∀j,j≠id->(H.erase id).get j=H.get j:=λj hj=>AHeap.get_erase_ne H (λe=>hj e.symm);have hroomE:(H.erase id).room=true:=hroom;rcases hsp with ⟨rfl,hsv⟩|⟨len,cs,rfl,hsl⟩
 ·
  have hc0:Con E .nsl sv:=(by grind [Con]);have hrE:=hr.erase id;have hl':=hl (H.erase id) heg;cases m with
  |zero=>
   simp only [Option.some.injEq]at hrr;subst hrr;have hev:aq_ P (H.erase id) t tx .nsl xa=some (.nsl,H.erase id):=by simp_all [aq_]
   obtain ⟨E',v,w',g1,g2,g3,g4⟩:=aD_ (ty:=ty) hrE hc0 hx hev;have hvn:=g3.newVoid hroomE (n:=n) (by rw [g2.1.2.2.2.1];exact hn);refine ⟨E'.void H.next,v,w',g1,Env.sub_trans g2.1 (Env.sub_void _ _),g2.2.2.1,λhat j hj=>?_,hvn,?_,λh=>absurd h (Nat.lt_irrefl 0)⟩;rcases hj with hj|hj;exact .inl (by rw [g2.2.2.2];exact hat j (by rw [←g2.2.1];exact hj));exact .inr hj;exact ⟨.nsl,by show E'.sy n=_;rw [g2.1.2.2.2.1];exact hn,.inl ⟨rfl,g4⟩⟩
  |succ m=>
   simp only at hrr;split at hrr
   .rename_i hb;cases hrr;have hev:aq_ P (H.erase id) t tx .nsl xa=some (.sl (H.erase id).next 0 (m+1) info.size none,(H.erase id).push (.cells l)):=by
     grind [aq_,cf_]
    obtain ⟨E',v,w',g1,g2,g3,g4⟩:=aD_ (ty:=ty) hrE hc0 hx hev;obtain ⟨k1,k2⟩:=cW_ (H0:=H.erase id) g2.1 g3 g4 r2 hlok hn hrok hlen;exact ⟨E',v,w',g1,g2.1,g2.2.2.1,λhat j hj=>by rw [g2.2.2.2];exact hat j (by rw [←g2.2.1];exact hj),k1,k2,λ_=>g2⟩
   cases hrr
 ·
  simp only at hrr;split at hrr;cases hrr;rename_i hd;have hcl:cs.length=len*info.size:=(of_decide_eq_true hd).2;obtain ⟨hrX,_⟩:=hr.expand hk hsi;have hc0:Con E (.sl id 0 len info.size none) sv:=by
   grind [Con]
  have hsg:∀j,j≠id->(H.set id (.cells cs)).get j=H.get j:=λj hj=>AHeap.get_set_ne H hid (λe=>hj e.symm) _;have hl':=hl (H.set id (.cells cs)) hsg;have hsame:∀j k,((H.erase id).push (.syl n)).get j=some k->(((H.set id (.cells cs)).erase id).push (.syl n)).get j=some k:=λj k hj=>by
   by_cases e:H.next=j
   .have e1:((H.erase id).push (.syl n)).get H.next=some (.syl n):=AHeap.get_push_same (H.erase id) r2 _;have e2:(((H.set id (.cells cs)).erase id).push (.syl n)).get H.next=some (.syl n):=AHeap.get_push_same ((H.set id (.cells cs)).erase id) r2 _
    grind
   .have e1:((H.erase id).push (.syl n)).get j=(H.erase id).get j:=AHeap.get_push_ne (H.erase id) r2 e _;have e2:(((H.set id (.cells cs)).erase id).push (.syl n)).get j=((H.set id (.cells cs)).erase id).get j:=AHeap.get_push_ne ((H.set id (.cells cs)).erase id) r2 e _
    grind [AHeap.get_erase_same,AHeap.get_erase_ne]
  have hgetX:(H.set id (.cells cs)).get id=some (.cells cs):=AHeap.get_set_same H hid _;cases m with
  |zero=>
   simp only [Option.some.injEq]at hrr;subst hrr;have hev:aq_ P (H.set id (.cells cs)) t tx (.sl id 0 len info.size none) xa=some (.sl id 0 len info.size none,H.set id (.cells cs)):=by simp_all [aq_]
   obtain ⟨E',v,w',g1,g2,g3,g4⟩:=aD_ (ty:=ty) hrX hc0 hx hev;have g4':=g4;obtain ⟨b,o,nn,c,off',q1,q2,q3,q4,q5,q6,_⟩:=g4';obtain ⟨arr,t',f1,f2,f3,f4⟩:=g3.blk hgetX q1;have hroomX:(H.set id (.cells cs)).room=true:=hroom;obtain ⟨p1,p2⟩:=g3.renew hroomX hgetX q1 f1 f3 f4;have hsub:E.sub (E'.bind H.next b o):=Env.sub_trans g2.1 p1.1;have hden:ab_ E.sy cs=cs:=a3_ _ hrok;have hcon2:Con (E'.bind H.next b o) (.sl H.next 0 len info.size none) v:=(by exact ⟨b,o,nn,c,off',by simp [Env.bind],p1.1.2.1 _ _ q2,q3,q4,q5,q6,λk hk=>by cases hk⟩);obtain ⟨k1,k2⟩:=cW_ (H0:=(H.set id (.cells cs)).erase id) hsub p2 hcon2 r2 (au_ hrok) (by rw [hden];exact hn) (by rw [hden];exact hrok) hcl;exact ⟨_,v,w',g1,hsub,g2.2.2.1,λhat j hj=>by show E'.vd j;rw [g2.2.2.2];exact hat j (by rw [←g2.2.1];exact hj),k1.same hsame rfl rfl,k2,λh=>absurd h (Nat.lt_irrefl 0)⟩
  |succ m=>
   simp only at hrr;split at hrr
   .rename_i hb;cases hrr;have hlc:Nat.beq (Nat.add 0 (Nat.mul len info.size)) (aL_ cs)=true:=by simp_all [ai_]
    have hroomX:((H.set id (.cells cs)).erase id).room=true:=hroom;have hev:aq_ P (H.set id (.cells cs)) t tx (.sl id 0 len info.size none) xa=some (.sl ((H.set id (.cells cs)).erase id).next 0 (Nat.add len (m+1)) info.size none,((H.set id (.cells cs)).erase id).push (.cells (cs++l))):=(by unfold aq_;simp only [ht,hi,hz,htx,hnot,hzl,Bool.and_self,hm,hl',hlb,Nat.beq_refl,hb,hgetX,hone,hlc,cf_,hroomX,aj_]);obtain ⟨E',v,w',g1,g2,g3,g4⟩:=aD_ (ty:=ty) hrX hc0 hx hev;have hcs:=(hg_ hrok).1;have hden:ab_ E.sy (cs++l)=cs++ab_ E.sy l:=(by rw [du_,a3_ _ hcs])
    obtain ⟨k1,k2⟩:=cW_ (H0:=(H.set id (.cells cs)).erase id) g2.1 g3 g4 r2 (dK_ (au_ hcs) hlok) (by rw [hden];exact hn) (by rw [hden];exact hrok) (by
     grind)
    exact ⟨E',v,w',g1,g2.1,g2.2.2.1,λhat j hj=>by rw [g2.2.2.2];exact hat j (by rw [←g2.2.1];exact hj),k1.same hsame rfl rfl,k2,λ_=>g2⟩
   cases hrr
end
section
variable [Gl]
def hy_ (H:AHeap) (sz:Nat) (x:AV):Option AV:=match x with
 | .sl id off len sz' cap=>match ak_ H (.sl id off len sz' cap) len sz with
   |some l=>match ad_ l&&(bd_ l&&(Nat.beq (aL_ l) (Nat.mul len sz)&&Nat.blt 0 sz))with
    |true=>some (.agg l)
    |false=>none
   |none=>none
 | .sym i=>some (.sym i)
 | .vsl n z cs=>match ad_ cs with
   |true=>some (.vsl n z cs)
   |false=>none
 | .nsl=>some .nsl
 | .str s=>some (.str s)
 |_=>none
def gd_ (P:Program) (T:Tm) (H:AHeap) (o:Oper):Option (Nat×Nat×XOp×List AV):=match o.op with
 | .call c=>match c.callee with
   | .builtin b=>match b with
     | .append=>match c.args.toList,c.argTypes.toList with
       |[s,x],[t,tx]=>match look T s with
        | .slx id sz i=>match H.get id with
          |some (.syl j)=>match Nat.beq j i&&H.room with
           |true=>match P.underlying t with
            |some (.slice e)=>match P.info? e with
             |some info=>match info.zero with
                 |some z=>match P.underlying tx with
                  |some dx=>match ef_ dx&&(Nat.beq (aL_ (at_ z)) info.size&&Nat.beq info.size sz)with
                   |true=>match hy_ H sz (look T x)with
                    |some b=>some (id,sz,.app sz info.bytes,[.sym i,b])
                    |none=>none
                   |false=>none
                  |none=>none
                 |none=>none
             |none=>none
            |_=>none
           |false=>none
          |_=>none
        |_=>none
       |_,_=>none
     |_=>none
   |_=>none
 |_=>none
omit [Gl]in
theorem lY_ {H H':AHeap} {id id2 off len sz' n sz i:Nat} {cap:Option Nat} {l:List AV} (hk:H.get id=some (.syl i)) (h:ak_ H (.sl id2 off len sz' cap) n sz=some l) (hH:∀j,j≠id->H'.get j=H.get j):
  ak_ H' (.sl id2 off len sz' cap) n sz=some l:=by
 unfold ak_ at h⊢
 grind [aV_]
omit [Gl]in
theorem mi_ {E:Env} {a:AV} {v:Value} (h:Con0 E a v):bS_ a=true:=by cases a<;>first|rfl|(simp [Con0]at h)
omit [Gl]in
theorem iB_ {E:Env} {H:AHeap} {sz id i:Nat} {x b:AV} {xv:Value} (hx:Con E x xv) (hk:H.get id=some (.syl i)) (h:hy_ H sz x=some b) {n:Nat} {l:List AV} (hb:by_ sz (den E.sy b)=some (n,l)) (hok:okL l=true):
  ∃xa l',Con E xa xv/\aU_ xa=some n/\(∀H':AHeap,(∀j,j≠id->H'.get j=H.get j)->ak_ H' xa n sz=some l')/\bd_ l'=true/\ad_ l'=true/\l=ab_ E.sy l':=by
 have closed:∀b,ae_ b=true->x=b->(∀l,den E.sy b≠ .agg l)->by_ sz (den E.sy b)=some (n,l)->∃xa l',Con E xa xv/\aU_ xa=some n/\(∀H':AHeap,(∀j,j≠id->H'.get j=H.get j)->ak_ H' xa n sz=some l')/\bd_ l'=true/\ad_ l'=true/\l=ab_ E.sy l':=by
  intro b hs e hna hb;subst e;have hc0:=ao_ hs hx;have hoff:=mi_ hc0;have:∃n',aU_ (den E.sy x)=some n'/\∃l',ak_ ⟨hnil,0,0⟩ (den E.sy x) n' sz=some l'/\n=n'/\l=l':=by
   unfold by_ at hb
   grind
  obtain ⟨_,h1,_,h2,rfl,rfl⟩:=this;refine ⟨_,l,hc0.con,h1,λH' _=>?_,okL_allOne hok,au_ hok,(a3_ _ hok).symm⟩
  grind [gI_]
 unfold hy_ at h;split at h;rename_i id2 off len sz' cap;split at h;rename_i l' hl;split at h;rename_i hbb;cases h;obtain ⟨b1,hbb⟩:=aa_ hbb;obtain ⟨b2,hbb⟩:=aa_ hbb;obtain ⟨b3,b4⟩:=aa_ hbb;have b3:=Nat.eq_of_beq_eq_true b3;rw [ai_]at b3;have b3:l'.length=len*sz:=b3;have b4:0<sz:=(by simp_all);simp only [den,by_,Option.some.injEq,Prod.mk.injEq]at hb;obtain ⟨e1,e2⟩:=hb;have e1:(ab_ E.sy l').length/sz=n:=(by rw [←e1,ai_];rfl);rw [a4_,b3,Nat.mul_div_cancel _ b4]at e1;subst e1;exact ⟨_,l',hx,rfl,λH' hH=>lY_ hk hl hH,b2,b1,e2.symm⟩;cases h;cases h;cases h;refine closed _ rfl rfl (λl e=>?_) hb;have hx':=hx;obtain ⟨a,q1,q2,_⟩:=hx';simp only [den,q1]at e;subst e;cases q2;split at h;rename_i hs;cases h;exact closed _ (by grind [ae_]) rfl (λl e=>by simp [den]at e) hb;cases h;cases h;exact closed _ rfl rfl (λl e=>by simp [den]at e) hb;cases h;exact closed _ rfl rfl (λl e=>by simp [den]at e) hb;cases h
where okL_allOne:∀{l:List AV},okL l=true->bd_ l=true
 |[],_=>rfl
 |a::r,h=>by rw [a0_]at h;obtain ⟨h1,h2⟩:=aa_ h;simp only [bd_,ba_ h1];exact okL_allOne h2
omit [Gl]in
theorem h6_ {sz bytes n:Nat} {a r:AV} {l:List AV} (h:iA_ sz bytes a n l=some r) (hr:okC r=true):okL l=true:=by
 unfold iA_ at h;split at h;cases h
 .rename_i hd;have hd:l.length=n*sz:=of_decide_eq_true hd;have nil:n=0->okL l=true:=λe=>by subst e;rw [Nat.zero_mul]at hd;rw [List.eq_nil_of_length_eq_zero hd];rfl
  split at h
  .split at h;exact nil rfl
   .split at h<;>grind [okC]
  split at h;cases h;split at h;exact nil rfl;split at h;cases h;exact (hg_ (by simpa only [okC]using hr)).2;cases h;cases h
theorem sZ_ {P:Program} {N k:Nat} {o:Oper} {T:Tm} {H:AHeap} {id sz n:Nat} {op:XOp} {args:List AV} (ha:gd_ P T H o=some (id,sz,op,args)) {Y:Sy} (hf:Fresh Y n) {r:AV} (hr:op.run P (ab_ Y.v args)=some r) (hok:okC r=true)
  {B:World} {pr:Nat->Prop} {E:Env} {a:Act} {w:World} (hy:E.At Y) (st:St P B pr N E T H [] a w):
  ∃E' nx v w',(execOp a.eval o).run P w=.ok nx w'/\(nx=.value v\/(nx=.skip/\v=undef))/\E.leF k E'/\E'.At (Y.put n r)/\St P B pr N E' T ((H.erase id).push (.syl n)) [] a w'/\Con E' (.slx H.next sz n) v:=by
 unfold gd_ at ha;split at ha
 case h_2=>cases ha
 rename_i c ho;split at ha
 case h_2=>cases ha
 rename_i b hc;split at ha
 case h_2=>cases ha
 split at ha
 case h_2=>cases ha
 rename_i s x t tx h1 h2;split at ha
 case h_2=>cases ha
 rename_i id' sz' i hs;split at ha
 case h_2=>cases ha
 rename_i j hk;split at ha
 case h_2=>cases ha
 rename_i hji;split at ha
 case h_2=>cases ha
 rename_i e ht;split at ha
 case h_2=>cases ha
 rename_i info hi;split at ha
 case h_2=>cases ha
 rename_i z hz;split at ha
 case h_2=>cases ha
 rename_i dx htx;split at ha
 case h_2=>cases ha
 rename_i hb;split at ha
 case h_2=>cases ha
 rename_i bb harg;cases ha;obtain ⟨hji,hroom⟩:=aa_ hji;have hji:=Nat.eq_of_beq_eq_true hji;subst hji;obtain ⟨hnot,hb⟩:=aa_ hb;obtain ⟨hzl,hsz⟩:=aa_ hb;have hsz:=Nat.eq_of_beq_eq_true hsz;have hv:∀i x,E.sy i=some x->(Y.put n r).v i=some x:=λi x hx=>hf.sub_put r i x (by rw [←hy.v];exact hx);have hll:∀i l,E.syl i=some l->(Y.put n r).l i=some l:=λi l hx=>by rw [hy.l]at hx;exact hx
 have hlo:∀i,i<64->(Y.put n r).v i=E.sy i:=λi hi=>by rw [hy.v];exact hf.low r i hi
 have st1:=st.with hv hll hlo;have cs:=st1.t.look s;have cx:=st1.t.look x;rw [hs]at cs;obtain ⟨av,ha0⟩:∃av,E.sy j=some av:=by
  have csY:=st.t.look s
  grind [Con]
 have ha1:(Y.put n r).v j=some av:=hv _ _ ha0;rw [hy.v]at ha0;simp only [ab_,den,ha0,XOp.run]at hr;split at hr
 case h_2=>cases hr
 rename_i m l hm;obtain ⟨xa,l',x1,x2,x3,x4,x5,rfl⟩:=iB_ (st.t.look x) hk harg (n:=m) (l:=l) (by rw [hy.v];exact hm) (h6_ hr hok);have x1':Con (E.with (Y.put n r)) xa (a.eval x):=x1.with hv hll;have hl2:ab_ (E.with (Y.put n r)).sy l'=ab_ E.sy l':=by obtain ⟨vs,_,hcl,_⟩:=aR_ (P:=P) st.r x1 x2 (Nat.le_refl _) (x3 H λ_ _=>rfl);exact cG_ hv hcl
 obtain ⟨E',v,w',g1,g2,g3,g4,g5,g6,_⟩:=oM_ (ty:=o.type) st1.r (n:=n) ht hi hz htx hnot hzl hsz cs x1' hk hroom x2 x3 x4 x5 ha1 (by grind) hok (Sy.put_same _ _ _);have g4:=g4 hy.res;obtain ⟨callee,cargs,ctypes⟩:=c;have h1:=al_ h1;have h2:=al_ h2;subst hc h1 h2
 refine ⟨E',.value v,v,w',?_,.inl rfl,(Env.with_leF k hlo).trans ⟨λi x _ hx=>g2.1 i x hx,g2.2.1,g2.2.2.1,g3,λi _=>by rw [g2.2.2.2.1]⟩,⟨g2.2.2.2.1,g2.2.2.2.2,g4⟩,
  ⟨⟨st1.t.size,st1.t.le,λt ht=>(st1.t.con t ht).sub g2,st1.t.gl.sub g2⟩,g5,st1.d.sub g2⟩,g6⟩
 unfold execOp
 grind [resolve,Sem.run_bind,Sem.run_pure,Result.andThen_ok,invoke,builtin]
def fP_:List AV->Bool
 |[_,b]=>match b with
  | .agg l=>Nat.blt 0 (aL_ l)
  | .vsl n _ _=>Nat.blt 0 n
  |_=>false
 |_=>false
def da_:List AV->Option Nat
 |[_,b]=>match b with
  | .sym i=>some i
  |_=>none
 |_=>none
def fF_ (s:Nat->Option AV) (i:Nat):Prop:=∃n z cs,s i=some (.vsl (n+1) z cs)
omit [Gl]in
theorem kl_ {H:AHeap} {sz:Nat} {x:AV} {l:List AV} (h:hy_ H sz x=some (.agg l)):0<sz/\∃len,l.length=len*sz:=by
 unfold hy_ at h;split at h
 .split at h
  .split at h
   .grind [Nat.eq_of_beq_eq_true,ai_,Nat.blt_eq]
   cases h
  cases h
 all_goals grind
theorem q4_ {P:Program} {N:Nat} {o:Oper} {T:Tm} {H:AHeap} {id sz n:Nat} {op:XOp} {args:List AV} (ha:gd_ P T H o=some (id,sz,op,args)) {r:AV} (hok:okC r=true)
  {B:World} {pr:Nat->Prop} {E:Env} {a:Act} {w:World} (hpos:fP_ args=true\/∃i,da_ args=some i/\fF_ E.sy i) (hr:op.run P (ab_ E.sy args)=some r) (hn:E.sy n=some r) (hT:TRel E N T a.tmps) (hrel:Rel B pr E H w):
  (∃c,o.op=.call c)/\∃E' v w',(execOp a.eval o).run P w=.ok (.value v) w'/\E.le E'/\Rel B pr E' ((H.erase id).push (.syl n)) w'/\Con E' (.slx H.next sz n) v:=by
 unfold gd_ at ha;split at ha
 case h_2=>cases ha
 rename_i c ho;split at ha
 case h_2=>cases ha
 rename_i b hc;split at ha
 case h_2=>cases ha
 split at ha
 case h_2=>cases ha
 rename_i s x t tx h1 h2;split at ha
 case h_2=>cases ha
 rename_i id' sz' i hs;split at ha
 case h_2=>cases ha
 rename_i j hk;split at ha
 case h_2=>cases ha
 rename_i hji;split at ha
 case h_2=>cases ha
 rename_i e ht;split at ha
 case h_2=>cases ha
 rename_i info hi;split at ha
 case h_2=>cases ha
 rename_i z hz;split at ha
 case h_2=>cases ha
 rename_i dx htx;split at ha
 case h_2=>cases ha
 rename_i hb;split at ha
 case h_2=>cases ha
 rename_i bb harg;cases ha;refine ⟨⟨c,ho⟩,?_⟩;obtain ⟨hji,hroom⟩:=aa_ hji;have hji:=Nat.eq_of_beq_eq_true hji;subst hji;obtain ⟨hnot,hb⟩:=aa_ hb;obtain ⟨hzl,hsz⟩:=aa_ hb;have hsz:=Nat.eq_of_beq_eq_true hsz;have cs:=hT.look s;rw [hs]at cs;obtain ⟨av,ha0⟩:∃av,E.sy j=some av:=by
  grind [Con]
 simp only [ab_,den,ha0,XOp.run]at hr;split at hr
 case h_2=>cases hr
 rename_i m l hm;obtain ⟨xa,l',x1,x2,x3,x4,x5,rfl⟩:=iB_ (hT.look x) hk harg (n:=m) (l:=l) hm (h6_ hr hok);obtain ⟨E',v,w',g1,g2,g3,g4,g5,g6,g7⟩:=oM_ (ty:=o.type) hrel (n:=n) ht hi hz htx hnot hzl hsz cs x1 hk hroom x2 x3 x4 x5 ha0 hr hok hn;have hm0:0<m:=by
  rcases hpos with hpos|⟨i,hi,nn,zz,cc,hcc⟩
  rotate_left
  .cases bb with
   |sym k=>
    cases hi;simp only [den,hcc,Option.getD_some,by_,aU_]at hm
    grind
   |_=>cases hi
  cases bb with
  |vsl n0 z0 c0=>
   have hp:0<n0:=by have:Nat.blt 0 n0=true:=hpos;simp_all
   grind [den,by_,aU_]
  |agg l0=>
   have hp:0<l0.length:=by
    have:Nat.blt 0 (aL_ l0)=true:=hpos
    grind [ai_,Nat.blt_eq]
   have hm1:=(Prod.mk.inj (Option.some.inj hm)).1;rw [←hm1];obtain ⟨h0,len,hl⟩:=kl_ harg;rw [ai_,a4_,hl];show 0<len*sz/sz;simp_all
  |_=>cases hpos
 have h1:=al_ h1;have h2:=al_ h2;refine ⟨E',v,w',?_,g7 hm0,g5,g6⟩;unfold execOp;simp only [resolve,Sem.run_bind,Sem.run_pure,Result.andThen_ok,invoke,builtin];simp_all
def oe_ (T:Tm) (o:Oper):Option (XOp×List AV):=match o.op with
 | .call c=>match c.callee with
   | .builtin b=>match b with
     | .len=>match c.args.toList,c.argTypes.toList with
       |[x],[t]=>match look T x with
        | .slx id sz i=>some (.len t,[.sym i])
        |_=>none
       |_,_=>none
     |_=>none
   |_=>none
 |_=>none
def rdX (s:Nat->Option AV) (T:Tm) (x:Operand):AV:=match look T x with
 | .slx id sz i=>match s i with
   |some .nsl=>.nsl
   |some (.vsl len _ _)=>.sl id 0 len sz none
   |_=>.opq
 |a=>a
theorem tC_ {E:Env} {N:Nat} {T:Tm} {a:Act} (h:TRel E N T a.tmps) (x:Operand):Con E (rdX E.sy T x) (a.eval x):=by
 have hl:=h.look x;unfold rdX;split
 .rename_i id sz i he;rw [he]at hl;obtain ⟨a,h1,⟨rfl,h2⟩|⟨len,cs,rfl,b,o,n,c,off',q1,q2,q3,q4,q5,q6⟩⟩:=hl<;>grind [Con]
 exact hl
theorem mR_ {P:Program} {N:Nat} {o:Oper} {T:Tm} {H:AHeap} {op:XOp} {args:List AV} (ha:oe_ T o=some (op,args)) {B:World} {pr:Nat->Prop} {E:Env} {a:Act} {w:World} {r:AV} (hr:op.run P (ab_ E.sy args)=some r) (ht:TRel E N T a.tmps) (hrel:Rel B pr E H w):
  ∃E' n v w',(execOp a.eval o).run P w=.ok n w'/\(n=.value v\/(n=.skip/\v=undef))/\E.le E'/\Rel B pr E' H w'/\Con E' r v:=by
 unfold oe_ at ha;split at ha
 case h_2=>cases ha
 rename_i c ho;split at ha
 case h_2=>cases ha
 rename_i b hc;split at ha
 case h_2=>cases ha
 split at ha
 case h_2=>cases ha
 rename_i x t h1 h2;split at ha
 case h_2=>cases ha
 rename_i id sz i hx;cases ha;have hl:=ht.look x;rw [hx]at hl;obtain ⟨av,e1,hl⟩:=hl;have e2:=e1;simp only [ab_,den,e2,XOp.run]at hr;have hev:aB_ P (rdX E.sy T) H o=some (.val r H):=by
  unfold aB_ eb_;simp only [ho,hc,h1,h2];unfold rdX;simp only [hx];rcases hl with ⟨rfl,_⟩|⟨len,cs,rfl,_⟩
  .have:cJ_ P H t .nsl=some r:=by exact hr
   grind [oV]
  .simp only [e1];have:cJ_ P H t (.sl id 0 len sz none)=some r:=by unfold cJ_ at hr⊢;split at hr;cases hr;exact hr;exact hr;cases hr;cases hr
   simp only [this,oV]
 obtain ⟨E',n,v,w',h1,h2,h3,h4,h5⟩:=gZ_ hrel (λx=>tC_ ht x) hev
 grind
theorem rI_ {P:Program} {N:Nat} {o:Oper} {T:Tm} {H:AHeap} {op:XOp} {args:List AV} (ha:oe_ T o=some (op,args)) {Y:Sy} {r:AV} (hr:op.run P (ab_ Y.v args)=some r)
  {B:World} {pr:Nat->Prop} {E:Env} {a:Act} {w:World} {D:Dfs} (hy:E.At Y) (st:St P B pr N E T H D a w):
  ∃E' n v w',(execOp a.eval o).run P w=.ok n w'/\(n=.value v\/(n=.skip/\v=undef))/\E.le E'/\St P B pr N E' T H D a w'/\Con E' r v:=by
 obtain ⟨E',n,v,w',h1,h2,h3,h4,h5⟩:=mR_ ha (by rw [hy.v];exact hr) st.t st.r;exact ⟨E',n,v,w',h1,h2,h3,⟨st.t.mono h3,h4,st.d.mono h3⟩,h5⟩
omit [Gl]in
theorem Rel.setTo {B:World} {pr:Nat->Prop} {E:Env} {H:AHeap} {w:World} (h:Rel B pr E H w) {id:Nat} {k0 k:ABlk} (hk:H.get id=some k0) (hb:∀own:Nat->Option Nat,RowAt E w own id k0->RowAt E w own id k):Rel B pr E (H.set id k) w:=by
 have hlt:=AHeap.get_lt hk;obtain ⟨own,g1,g2⟩:=h.own;refine { own:=⟨own,λid' k' hk'=>?_,g2⟩,imm:=h.imm,ib:=h.ib,fresh:=h.fresh,resv:=h.resv,vds:=h.vds,szs:=h.szs,prot:=h.prot,size:=h.size,os:=h.os,output:=h.output }
 grind [AHeap.get_set_same,AHeap.get_set_ne]
def frz (F:AHeap) (a:AV):AV:=match ex_ 100 F a with
 |some b=>b
 |none=>a
theorem mH_ {P:Program} {N k:Nat} {Y:Sy} {T:Tm} {H F H':AHeap} {D:Dfs} (hF:∀id k,F.get id=some k->H.get id=some k) (hH:∀id k,H'.get id=some k->H.get id=some k/\F.get id=none) (hn:H'.next=H.next) (hh:H'.hi=H.hi):
  Weak P N k Y T H D Y (bc_ (frz F) T) H' D:=λB pr E a w hy st=>by
 obtain ⟨E',h1,h2,h3,h4,h5,h6,h7⟩:=st.r.freezeS hF hH hn hh;refine ⟨E',⟨λi x _ hx=>by grind,h1.2.1,h1.2.2.1,h4,λi _=>by rw [h1.2.2.2.1]⟩,⟨h1.2.2.2.1.trans hy.v,h1.2.2.2.2.trans hy.l,by rw [h3,h5];exact hy.res⟩,⟨⟨st.t.size,st.t.le,λt ht=>?_,st.t.gl.sub h1⟩,h6,st.d.sub h1⟩⟩;rw [aC_];unfold frz;have:=st.t.con t ht;split;rename_i b hb;exact d4_ st.r hF h1 h7 100 _ _ _ hb this;exact this.sub h1
mutual
def r9_:Nat->AHeap->AV->List Nat->List Nat
 |0,_,_,acc=>acc
 |n+1,H,a,acc=>match a with
  | .sl id _ _ _ _=>ot_ n H id acc
  | .ptr id _=>ot_ n H id acc
  | .slx id _ _=>ot_ n H id acc
  | .vptr cs=>ek_ n H cs acc
  | .vsl _ _ cs=>ek_ n H cs acc
  | .fn _ cs=>ek_ n H cs acc
  | .agg cs=>ek_ n H cs acc
  | .tup cs=>ek_ n H cs acc
  | .iface _ a=>r9_ n H a acc
  |_=>acc
def ot_:Nat->AHeap->Nat->List Nat->List Nat
 |0,_,_,acc=>acc
 |n+1,H,id,acc=>match memT id acc with
  |true=>acc
  |false=>match H.get id with
   |some (.cells cs)=>ek_ n H cs (id::acc)
   |some (.syl _)=>id::acc
   |_=>acc
def ek_:Nat->AHeap->List AV->List Nat->List Nat
 |0,_,_,acc=>acc
 |n+1,H,l,acc=>match l with
  |[]=>acc
  |a::r=>ek_ n H r (r9_ n H a acc)
end
def dg_ (H:AHeap):List Nat->AHeap
 |[]=>⟨hnil,0,0⟩
 |id::r=>match H.get id with
  |some k=>(dg_ H r).set id k
  |none=>dg_ H r
def d0_ (H:AHeap):List Nat->AHeap
 |[]=>H
 |id::r=>(d0_ H r).erase id
omit [Gl]in
theorem c8_ {H:AHeap}:∀(l:List Nat) (id:Nat) (k:ABlk),(dg_ H l).get id=some k->H.get id=some k/\id∈l
 |[],id,k,h=>by
  grind [dY_,dg_]
 |i::r,id,k,h=>by unfold dg_ at h;split at h;rename_i k' hk;have hi:=AHeap.get_lt hk;by_cases e:i=id;subst e;rw [AHeap.get_set_same _ hi]at h;cases h;exact ⟨hk,List.mem_cons_self ..⟩;rw [AHeap.get_set_ne _ hi e]at h;obtain ⟨h1,h2⟩:=c8_ r id k h;exact ⟨h1,List.mem_cons_of_mem _ h2⟩;obtain ⟨h1,h2⟩:=c8_ r id k h;exact ⟨h1,List.mem_cons_of_mem _ h2⟩
omit [Gl]in
theorem ft_ {H:AHeap}:∀(l:List Nat) (id:Nat) (k:ABlk),(d0_ H l).get id=some k->H.get id=some k/\id∉l
 |[],id,k,h=>⟨h,λh=>by cases h⟩
 |i::r,id,k,h=>by have h:((d0_ H r).erase i).get id=some k:=h;have e:i≠id:=λe=>(by subst e;rw [AHeap.get_erase_same]at h;cases h);rw [AHeap.get_erase_ne _ e]at h;obtain ⟨h1,h2⟩:=ft_ r id k h;refine ⟨h1,λhm=>?_⟩;rcases List.mem_cons.1 hm with hm|hm;exact e hm.symm;exact h2 hm
omit [Gl]in
theorem cz_ {H:AHeap}:∀l,(d0_ H l).next=H.next/\(d0_ H l).hi=H.hi
 |[]=>⟨rfl,rfl⟩
 |i::r=>cz_ r
theorem ck_ {P:Program} {N k:Nat} {Y:Sy} {T:Tm} {H:AHeap} {D:Dfs} (l:List Nat):Weak P N k Y T H D Y (bc_ (frz (dg_ H l)) T) (d0_ H l) D:=by refine mH_ (λid k h=>(c8_ l id k h).1) (λid k h=>?_) (cz_ l).1 (cz_ l).2;obtain ⟨h1,h2⟩:=ft_ l id k h;cases hf:(dg_ H l).get id<;>grind [dg_,get,id,absurd,c8_]
def mT_ (F:AHeap):List AV->List AV
 |[]=>[]
 |a::r=>frz F a::mT_ F r
omit [Gl]in
theorem mU_ (F:AHeap):∀(l:List AV) (i:Nat),(mT_ F l)[i]? =(l[i]?).map (frz F)
 |[],i=>by simp [mT_]
 |a::r,0=>by simp [mT_]
 |a::r,i+1=>by simpa [mT_]using mU_ F r i
omit [Gl]in
theorem mV_ (F:AHeap):∀l:List AV,(mT_ F l).length=l.length
 |[]=>rfl
 |a::r=>by simp [mT_,mV_ F r]
def tK_ (F:AHeap) (id:Nat) (H:AHeap):AHeap:=match H.get id with
 |some (.cells cs)=>H.set id (.cells (mT_ F cs))
 |_=>H
theorem ly_ {P:Program} {N k:Nat} {Y:Sy} {T:Tm} {H F H':AHeap} {D:Dfs} (rid:Nat) (hF:∀id k,F.get id=some k->H.get id=some k) (hH:∀id k,H'.get id=some k->H.get id=some k/\F.get id=none) (hn:H'.next=H.next) (hh:H'.hi=H.hi):
  Weak P N k Y T H D Y (bc_ (frz F) T) (tK_ F rid H') D:=λB pr E a w hy st=>by
 obtain ⟨E',h1,h2,h3,h4,h5,h6,h7⟩:=st.r.freezeS hF hH hn hh;have hcon:∀x v,Con E x v->Con E' (frz F x) v:=λx v hc=>by unfold frz;split;rename_i b hb;exact d4_ st.r hF h1 h7 100 _ _ _ hb hc;exact hc.sub h1
 refine ⟨E',⟨λi x _ hx=>by grind,h1.2.1,h1.2.2.1,h4,λi _=>by rw [h1.2.2.2.1]⟩,⟨h1.2.2.2.1.trans hy.v,h1.2.2.2.2.trans hy.l,by rw [h3,h5];exact hy.res⟩,⟨⟨st.t.size,st.t.le,λt ht=>?_,st.t.gl.sub h1⟩,?_,st.d.sub h1⟩⟩;rw [aC_];exact hcon _ _ (st.t.con t ht)
 .unfold tK_;split
  .rename_i cs hk;have hk0:=(hH rid _ hk).1;refine h6.setTo hk λown hrow=>?_;rcases hrow with ⟨_,hv⟩|⟨b,o,q1,q2,arr,t,q3,q4,q5,q6⟩;exact hv.elim
   .rw [h2]at q1;obtain ⟨arr2,t2,e1,e2,e3,e4⟩:=st.r.blk hk0 q1;refine .inr ⟨b,o,by grind,q2,arr,t,q3,q4,by rw [mV_];exact q5,λi x hx=>?_⟩
    grind [mU_]
  exact h6
theorem fK_ {P:Program} {N k:Nat} {Y:Sy} {T:Tm} {H:AHeap} {D:Dfs} (rid:Nat) (l:List Nat):Weak P N k Y T H D Y (bc_ (frz (dg_ H l)) T) (tK_ (dg_ H l) rid (d0_ H l)) D:=by refine ly_ rid (λid k h=>(c8_ l id k h).1) (λid k h=>?_) (cz_ l).1 (cz_ l).2;obtain ⟨h1,h2⟩:=ft_ l id k h;cases hf:(dg_ H l).get id<;>grind [dg_,get,id,absurd,c8_]
def aN_:List (AV×AV×Nat)->List AV
 |[]=>[]
 |(k,v,_)::r=>enK k::v::aN_ r
def fY_:List (AV×AV×Nat)->Bool
 |[]=>true
 |(k,_,_)::r=>(match k with
  | .sym _=>false
  |_=>true)&&fY_ r
omit [Gl]in
theorem g1_:∀es:List (AV×AV×Nat),(aN_ es).length=es.length*2
 |[]=>rfl
 |(k,v,_)::r=>by simp only [aN_,List.length_cons,g1_ r];omega
omit [Gl]in
theorem pa_ {E:Env}:∀{cs:List AV} {ms:List MapEntry},ConM E cs ms->∃es,ConE E es ms/\aN_ es=cs/\es.length=ms.length
 |[],ms,h=>⟨[],h,rfl,by grind [ConM]⟩
 |[_],ms,h=>h.elim
 |k::v::r,ms,h=>by obtain ⟨e,t,rfl,h2,h3,h4⟩:=h;obtain ⟨es,g1,g2,g3⟩:=pa_ h4;exact ⟨(unK k,v,e.born)::es,⟨e,t,rfl,h2.2.con,h3.con,rfl,g1⟩,by simp only [aN_,g2,h2.1],by simp [g3]⟩
omit [Gl]in
theorem s5_ {s:Nat->Option AV} {k:AV} (h:∀i,k≠ .sym i):den s (enK k)=enK (den s k):=by cases k<;>first|rfl|(exact absurd rfl (h _))
omit [Gl]in
theorem qM_ (k:AV):ae_ (enK k)=ae_ k:=by cases k<;>rfl
omit [Gl]in
theorem tr_ {k:AV} (h:okC (enK k)=true):∀i,k≠ .sym i:=λi e=>by subst e;cases h
omit [Gl]in
theorem hc_:∀{es:List (AV×AV×Nat)},okL (aN_ es)=true->fY_ es=true
 |[],_=>rfl
 |(k,v,b)::es,h=>by
  simp only [aN_,okL]at h;have h1:okC (enK k)=true:=by
   cases hk:okC (enK k)with
   |true=>rfl
   |false=>rw [hk]at h;cases h
  rw [h1]at h;have h2:okL (aN_ es)=true:=by
   cases hv:okC v with
   |true=>rw [hv]at h;exact h
   |false=>rw [hv]at h;cases h
  have:=tr_ h1;simp only [fY_,hc_ h2,Bool.and_true]<;>(cases k<;>first|rfl|(exact absurd rfl (this _)))
omit [Gl]in
theorem gS_ {E:Env}:∀{es:List (AV×AV×Nat)} {ms:List MapEntry},ad_ (aN_ es)=true->fY_ es=true->ConE E es ms->ConM E (ab_ E.sy (aN_ es)) ms
 |[],ms,_,_,h=>h
 |(k,v,b)::es,ms,hok,hke,h=>by
  simp only [aN_,ad_,qM_]at hok;obtain ⟨e,t,rfl,h2,h3,_,h5⟩:=h;simp only [fY_,Bool.and_eq_true]at hke;have hns:∀i,k≠ .sym i:=λi e=>(by subst e;cases hke.1);cases hk:ae_ k with
  |false=>grind
  |true=>
   rw [hk]at hok;cases hv:ae_ v with
   |false=>grind
   |true=>rw [hv]at hok;refine ⟨e,t,rfl,?_,ao_ hv h3,gS_ hok hke.2 h5⟩;rw [s5_ hns,ip_];exact ⟨rfl,ao_ hk h2⟩
omit [Gl]in
theorem ConE.length {E:Env}:∀{es:List (AV×AV×Nat)} {ms:List MapEntry},ConE E es ms->ms.length=es.length
 |[],ms,h=>by grind [Go.Sx.ConE]
 |(k,v,b)::es,ms,h=>by obtain ⟨e,t,rfl,_,_,_,h5⟩:=h;simp [h5.length]
section
variable {P:Program} {B:World} {pr:Nat->Prop} {E:Env} {H:AHeap} {w:World}
omit [Gl]in
theorem Rel.expandM (h:Rel B pr E H w) {id i n:Nat} {cs:List AV} (hk:H.get id=some (.mpl i)) (hi:E.sy i=some (.vsl n 2 cs)):∃es clock,Rel B pr E (H.set id (.map es clock)) w/\aN_ es=cs/\es.length=n:=by obtain ⟨own,g1,_⟩:=h.own;obtain ⟨_,hv⟩|⟨b,o,h1,h2,h0,n',cs',e,es',clock,h3,h4,h5⟩:=g1 id _ hk;exact hv.elim;rw [hi]at e;cases e;obtain ⟨es,q1,q2,q3⟩:=pa_ h5;refine ⟨es,clock,h.setTo hk λown' hr=>?_,q2,by grind⟩;obtain ⟨_,hv⟩|⟨b',o',k1,k2,k0,n',cs',e,es2,clock2,k3,k4,k5⟩:=hr;exact hv.elim;rw [h1]at k1;cases k1;exact .inr ⟨b,o,h1,k2,h0,es',h3,q1⟩
omit [Gl]in
theorem Rel.collapseM (h:Rel B pr E H w) {id n clock:Nat} {es:List (AV×AV×Nat)} (hk:H.get id=some (.map es clock)) (hs:ad_ (aN_ es)=true) (hke:fY_ es=true) (hn:E.sy n=some (.vsl es.length 2 (ab_ E.sy (aN_ es)))):Rel B pr E (H.set id (.mpl n)) w:=
 h.setTo hk λown hr=>by obtain ⟨_,hv⟩|⟨b,o,k1,k2,k0,es',k3,k4⟩:=hr;exact hv.elim;exact .inr ⟨b,o,k1,k2,k0,es.length,_,hn,es',clock,k3,by rw [←Array.length_toList,k4.length],gS_ hs hke k4⟩
end
omit [Gl]in
theorem qu_ {d:TypeDesc} {k q:AV}:hN_ d k (enK q)=hN_ d k q:=by cases q<;>cases d<;>cases k<;>rfl
omit [Gl]in
theorem m2_ {d:TypeDesc} {k v:AV} (hk:enK k=k):∀{es:List (AV×AV×Nat)} {i:Nat} {l:List AV},m1_ d k v (aN_ es)=some l->
  (∃j a,dT_ d k es i=some (some (i+j,a))/\aN_ (oj_ es j v)=l)\/(dT_ d k es i=some none/\∀c,aN_ (e3_ es (k,v,c))=l)
 |[],i,l,h=>by simp only [aN_,m1_,Option.some.injEq]at h;subst h;exact .inr ⟨rfl,λc=>by simp only [e3_,aN_,hk]⟩
 |(q,x,b)::es,i,l,h=>by
  simp only [aN_,m1_,qu_]at h;split at h;rename_i hq;cases h;exact .inl ⟨0,x,by simp_all [dT_],rfl⟩
  .rename_i hq;split at h
   .rename_i l' hl;cases h;rcases m2_ hk (i:=i+1) hl with ⟨j,a,g1,g2⟩|⟨g1,g2⟩
    .refine .inl ⟨j+1,a,?_,by grind [oj_,aN_]⟩
     grind [dT_]
    grind [dT_,e3_,aN_]
   cases h
  cases h
def uP_ (P:Program) (T:Tm) (H:AHeap) (o:Oper):Option (Nat×XOp×List AV):=match o.op with
 | .mapUpdate t m k x=>match look T m with
   | .map id=>match H.get id with
     |some (.mpl i)=>match ae_ (look T k)&&ae_ (look T x)with
      |true=>some (id,.mput t,[.sym i,look T k,look T x])
      |false=>none
     |_=>none
   |_=>none
 |_=>none
theorem rV_ {P:Program} {N kk:Nat} {o:Oper} {T:Tm} {H:AHeap} {id n:Nat} {op:XOp} {args:List AV} (ha:uP_ P T H o=some (id,op,args)) {Y:Sy} (hf:Fresh Y n) {r:AV} (hr:op.run P (ab_ Y.v args)=some r) (hok:okC r=true)
  {B:World} {pr:Nat->Prop} {E:Env} {a:Act} {w:World} (hy:E.At Y) (st:St P B pr N E T H [] a w):
  ∃E' nx v w',(execOp a.eval o).run P w=.ok nx w'/\(nx=.value v\/(nx=.skip/\v=undef))/\E.leF kk E'/\E'.At (Y.put n r)/\St P B pr N E' T (H.set id (.mpl n)) [] a w'/\Con E' (.tup []) v:=by
 unfold uP_ at ha;split at ha
 case h_2=>cases ha
 rename_i t m k x ho;split at ha
 case h_2=>cases ha
 rename_i id' hm;split at ha
 case h_2=>cases ha
 rename_i i hk;split at ha
 case h_2=>cases ha
 rename_i hs;cases ha;obtain ⟨s1,s2⟩:=aa_ hs;have hlt:=AHeap.get_lt hk;simp only [ab_,XOp.run]at hr;split at hr
 case h_2=>cases hr
 rename_i kt et ht;split at hr
 case h_2=>cases hr
 rename_i d hkd;unfold uo_ at hr;split at hr
 case h_2=>cases hr
 rename_i hko;split at hr
 case h_2=>cases hr
 rename_i nn z cs hiv;split at hr
 case h_2=>cases hr
 rename_i hz;obtain ⟨hz,_⟩:=aa_ hz;have hz:=Nat.eq_of_beq_eq_true hz;subst hz;split at hr
 case h_2=>cases hr
 rename_i l hl;cases hr;have hv:∀i x,E.sy i=some x->(Y.put n (.vsl (Nat.div (aL_ l) 2) 2 l)).v i=some x:=λi x hx=>hf.sub_put _ i x (by rw [←hy.v];exact hx);have hll:∀i x,E.syl i=some x->(Y.put n (.vsl (Nat.div (aL_ l) 2) 2 l)).l i=some x:=λi x hx=>by rw [hy.l]at hx;exact hx
 have hlo:∀i,i<64->(Y.put n (.vsl (Nat.div (aL_ l) 2) 2 l)).v i=E.sy i:=λi hi=>by rw [hy.v];exact hf.low _ i hi
 have hyi:Y.v i=some (.vsl nn 2 cs):=by
  grind [den]
 obtain ⟨es,clock,hrX,hfl,hlen⟩:=st.r.expandM hk (by rw [hy.v];exact hyi);have ck:Con E (den E.sy (look T k)) (a.eval k):=(ao_ s1 (st.t.look k)).con;have cx:Con E (den E.sy (look T x)) (a.eval x):=(ao_ s2 (st.t.look x)).con;have cm:Con E (.map id) (a.eval m):=by rw [←hm];exact st.t.look m
 rw [←hy.v]at hko hl;rw [←hfl]at hl;have hgX:(H.set id (.map es clock)).get id=some (.map es clock):=AHeap.get_set_same H hlt _;have key:∃es2 c2,a5_ P (H.set id (.map es clock)) t (.map id) (den E.sy (look T k)) (den E.sy (look T x))=some (.tup [],(H.set id (.map es clock)).set id (.map es2 c2))/\aN_ es2=l:=by
  unfold a5_;have hkk:enK (den E.sy (look T k))=den E.sy (look T k):=by revert hko;cases den E.sy (look T k)<;>first|(intro _;rfl)|(intro h;exact absurd h (by cases d<;>simp [gx_]))
  rcases m2_ hkk (i:=0) hl with ⟨j,q,g1,g2⟩|⟨g1,g2⟩<;>grind
 obtain ⟨es2,c2,hev,hfl2⟩:=key;obtain ⟨w',h1,h2,_⟩:=bZ_ hrX cm ck cx hev;have hokl:okL l=true:=by grind [okC]
 have hg2:((H.set id (.map es clock)).set id (.map es2 c2)).get id=some (.map es2 c2):=AHeap.get_set_same _ hlt _;have hl2:Nat.div (aL_ l) 2=es2.length:=by rw [ai_,←hfl2,g1_];show es2.length*2/2=_;omega
 have h3:=(h2.with hv hll).collapseM (n:=n) hg2 (by grind [au_]) (hc_ (by rw [hfl2];exact hokl)) (by rw [hfl2,a3_ _ hokl,←hl2];exact Sy.put_same _ _ _);have h4:Rel B pr (E.with (Y.put n (.vsl (Nat.div (aL_ l) 2) 2 l))) (H.set id (.mpl n)) w':=h3.same (λj q hj=>by
  grind [AHeap.get_set_same,AHeap.get_set_ne]) rfl rfl
 have st1:=st.with hv hll hlo;refine ⟨_,.skip,undef,w',?_,.inr ⟨rfl,rfl⟩,Env.with_leF kk hlo,⟨rfl,rfl,hy.res⟩,⟨st1.t,h4,st1.d⟩,a6_ _⟩;simp_all [execOp]
omit [Gl]in
theorem pt_ {P:Program} {kt:TypeId} {k v:AV}:∀{es:List (AV×AV×Nat)} {i:Nat} {l:List AV},rS_ P kt k v (aN_ es)=some l->
  (∃j q a,dV_ P kt k es i=some (some (i+j,q,a))/\dM_ k q=true/\aN_ (mY_ es j k v)=l)\/(dV_ P kt k es i=some none/\∀c,aN_ (e3_ es (k,v,c))=l)
 |[],i,l,h=>by simp only [aN_,rS_,Option.some.injEq]at h;subst h;exact .inr ⟨rfl,λc=>rfl⟩
 |(q,x,b)::es,i,l,h=>by
  simp only [aN_,rS_,ip_]at h;split at h;rename_i hq;split at h;rename_i hb;cases h;exact .inl ⟨0,q,x,by simp_all [dV_],hb,rfl⟩;cases h
  .rename_i hq;split at h
   .rename_i l' hl;cases h;rcases pt_ (i:=i+1) hl with ⟨j,q',a,g1,g2,g3⟩|⟨g1,g2⟩
    .refine .inl ⟨j+1,q',a,?_,g2,by simp only [mY_,aN_,g3]⟩;simp only [dV_,hq];rw [show Nat.succ i=i+1 from rfl,g1]
     congr 3
     omega
    refine .inr ⟨?_,λc=>by simp only [e3_,aN_,g2]⟩;simp only [dV_,hq];exact g1
   cases h
  cases h
def vL_ (P:Program) (t:TypeId):Bool:=match P.underlying t with
 |some (.map kt _)=>match P.underlying kt with
  |some d=>eh_ d
  |none=>false
 |_=>false
def uQ_ (P:Program) (T:Tm) (H:AHeap) (o:Oper):Option (Nat×XOp×List AV):=match o.op with
 | .mapUpdate t m k x=>match look T m with
   | .map id=>match H.get id with
     |some (.mpl i)=>match ae_ (look T k)&&ae_ (look T x)with
      |true=>some (id,.mpu t,[.sym i,look T k,look T x])
      |false=>none
     |_=>none
   |_=>none
 |_=>none
theorem rW_ {P:Program} {N kk:Nat} {o:Oper} {T:Tm} {H:AHeap} {id n:Nat} {op:XOp} {args:List AV} (ha:uQ_ P T H o=some (id,op,args)) {Y:Sy} (hf:Fresh Y n) {r:AV} (hr:op.run P (ab_ Y.v args)=some r) (hok:okC r=true)
  {B:World} {pr:Nat->Prop} {E:Env} {a:Act} {w:World} (hy:E.At Y) (st:St P B pr N E T H [] a w):
  ∃E' nx v w',(execOp a.eval o).run P w=.ok nx w'/\(nx=.value v\/(nx=.skip/\v=undef))/\E.leF kk E'/\E'.At (Y.put n r)/\St P B pr N E' T (H.set id (.mpl n)) [] a w'/\Con E' (.tup []) v:=by
 unfold uQ_ at ha;split at ha
 case h_2=>cases ha
 rename_i t m k x ho;split at ha
 case h_2=>cases ha
 rename_i id' hm;split at ha
 case h_2=>cases ha
 rename_i i hk;split at ha
 case h_2=>cases ha
 rename_i hs;cases ha;obtain ⟨s1,s2⟩:=aa_ hs;have hlt:=AHeap.get_lt hk;simp only [ab_,XOp.run]at hr;split at hr
 case h_2=>cases hr
 rename_i kt et ht;split at hr
 case h_2=>cases hr
 rename_i d hkd;split at hr
 case h_2=>cases hr
 rename_i hko;split at hr
 case h_2=>cases hr
 rename_i nn z cs hiv;split at hr
 case h_2=>cases hr
 rename_i hz;obtain ⟨hz,_⟩:=aa_ hz;have hz:=Nat.eq_of_beq_eq_true hz;subst hz;split at hr
 case h_2=>cases hr
 rename_i l hl;cases hr;have hv:∀i x,E.sy i=some x->(Y.put n (.vsl (Nat.div (aL_ l) 2) 2 l)).v i=some x:=λi x hx=>hf.sub_put _ i x (by rw [←hy.v];exact hx);have hll:∀i x,E.syl i=some x->(Y.put n (.vsl (Nat.div (aL_ l) 2) 2 l)).l i=some x:=λi x hx=>by rw [hy.l]at hx;exact hx
 have hlo:∀i,i<64->(Y.put n (.vsl (Nat.div (aL_ l) 2) 2 l)).v i=E.sy i:=λi hi=>by rw [hy.v];exact hf.low _ i hi
 have hyi:Y.v i=some (.vsl nn 2 cs):=by
  grind [den]
 obtain ⟨es,clock,hrX,hfl,hlen⟩:=st.r.expandM hk (by rw [hy.v];exact hyi);have ck:Con E (den E.sy (look T k)) (a.eval k):=(ao_ s1 (st.t.look k)).con;have cx:Con E (den E.sy (look T x)) (a.eval x):=(ao_ s2 (st.t.look x)).con;have cm:Con E (.map id) (a.eval m):=by rw [←hm];exact st.t.look m
 rw [←hy.v]at hko hl;rw [←hfl]at hl;have hgX:(H.set id (.map es clock)).get id=some (.map es clock):=AHeap.get_set_same H hlt _;have key:∃es2 c2,a5_ P (H.set id (.map es clock)) t (.map id) (den E.sy (look T k)) (den E.sy (look T x))=some (.tup [],(H.set id (.map es clock)).set id (.map es2 c2))/\aN_ es2=l:=by obtain ⟨hn,_⟩:=aa_ hko;have hkf:gx_ d (den E.sy (look T k))=false:=(by cases d<;>first|rfl|(simp [eh_]at hn));unfold a5_;rcases pt_ (i:=0) hl with ⟨j,q,a',g1,g2,g3⟩|⟨g1,g2⟩;refine ⟨mY_ es j _ _,clock,?_,g3⟩;simp only [ht,hkd,hkf,ch_,hko,hgX,g1,g2,Nat.zero_add];refine ⟨e3_ es (_,_,clock),Nat.succ clock,?_,g2 _⟩;simp only [ht,hkd,hkf,ch_,hko,hgX,g1]
 obtain ⟨es2,c2,hev,hfl2⟩:=key;obtain ⟨w',h1,h2,_⟩:=bZ_ hrX cm ck cx hev;have hokl:okL l=true:=by grind [okC]
 have hg2:((H.set id (.map es clock)).set id (.map es2 c2)).get id=some (.map es2 c2):=AHeap.get_set_same _ hlt _;have hl2:Nat.div (aL_ l) 2=es2.length:=by rw [ai_,←hfl2,g1_];show es2.length*2/2=_;omega
 have h3:=(h2.with hv hll).collapseM (n:=n) hg2 (by grind [au_]) (hc_ (by rw [hfl2];exact hokl)) (by rw [hfl2,a3_ _ hokl,←hl2];exact Sy.put_same _ _ _);have h4:Rel B pr (E.with (Y.put n (.vsl (Nat.div (aL_ l) 2) 2 l))) (H.set id (.mpl n)) w':=h3.same (λj q hj=>by
  grind [AHeap.get_set_same,AHeap.get_set_ne]) rfl rfl
 have st1:=st.with hv hll hlo;refine ⟨_,.skip,undef,w',?_,.inr ⟨rfl,rfl⟩,Env.with_leF kk hlo,⟨rfl,rfl,hy.res⟩,⟨st1.t,h4,st1.d⟩,a6_ _⟩;simp_all [execOp]
def vP_ (o:Oper):TypeId:=match o.op with
 | .mapUpdate t _ _ _=>t
 |_=>0
def rT_ (P:Program) (T:Tm) (H:AHeap) (o:Oper):Option (Nat×XOp×List AV):=match vL_ P (vP_ o)with
 |true=>uQ_ P T H o
 |false=>uP_ P T H o
theorem tl_ {P:Program} {N kk:Nat} {o:Oper} {T:Tm} {H:AHeap} {id n:Nat} {op:XOp} {args:List AV} (ha:rT_ P T H o=some (id,op,args)) {Y:Sy} (hf:Fresh Y n) {r:AV} (hr:op.run P (ab_ Y.v args)=some r) (hok:okC r=true)
  {B:World} {pr:Nat->Prop} {E:Env} {a:Act} {w:World} (hy:E.At Y) (st:St P B pr N E T H [] a w):
  ∃E' nx v w',(execOp a.eval o).run P w=.ok nx w'/\(nx=.value v\/(nx=.skip/\v=undef))/\E.leF kk E'/\E'.At (Y.put n r)/\St P B pr N E' T (H.set id (.mpl n)) [] a w'/\Con E' (.tup []) v:=by
 unfold rT_ at ha;split at ha;exact rW_ ha hf hr hok hy st;exact rV_ ha hf hr hok hy st
def rQ_ (T:Tm) (H:AHeap) (o:Oper):Option (XOp×List AV):=match o.op with
 | .call c=>match c.callee with
   | .builtin b=>match b with
     | .len=>match c.args.toList,c.argTypes.toList with
       |[x],[t]=>match look T x with
        | .map id=>match H.get id with
          |some (.mpl i)=>some (.mlen,[.sym i])
          |_=>none
        |_=>none
       |_,_=>none
     |_=>none
   |_=>none
 |_=>none
def oa_ (P:Program) (o:Oper):Bool:=match o.op with
 | .call c=>match c.argTypes.toList with
   |[t]=>match P.underlying t with
    |some (.map _ _)=>true
    |_=>false
   |_=>false
 |_=>false
theorem qw_ {P:Program} {N:Nat} {o:Oper} {T:Tm} {H:AHeap} {op:XOp} {args:List AV} (ha:rQ_ T H o=some (op,args)) (hmt:oa_ P o=true) {Y:Sy} {r:AV} (hr:op.run P (ab_ Y.v args)=some r)
  {B:World} {pr:Nat->Prop} {E:Env} {a:Act} {w:World} {D:Dfs} (hy:E.At Y) (st:St P B pr N E T H D a w):
  ∃E' n v w',(execOp a.eval o).run P w=.ok n w'/\(n=.value v\/(n=.skip/\v=undef))/\E.le E'/\St P B pr N E' T H D a w'/\Con E' r v:=by
 unfold rQ_ at ha;split at ha
 case h_2=>cases ha
 rename_i c ho;split at ha
 case h_2=>cases ha
 rename_i b hc;split at ha
 case h_2=>cases ha
 split at ha
 case h_2=>cases ha
 rename_i x t h1 h2;split at ha
 case h_2=>cases ha
 rename_i id hx;split at ha
 case h_2=>cases ha
 rename_i i hk;cases ha;unfold oa_ at hmt;simp only [ho,h2]at hmt;split at hmt
 case h_2=>cases hmt
 rename_i kt et ht;simp only [ab_,XOp.run]at hr;split at hr
 case h_2=>cases hr
 rename_i nn z cs hiv;split at hr
 case h_2=>cases hr
 cases hr;have hyi:E.sy i=some (.vsl nn z cs):=by
  rw [hy.v]
  grind [den]
 have cx:=st.t.look x;rw [hx]at cx;obtain ⟨b,hφ,hval⟩:=cx;obtain ⟨_,n',cs',f3,es',c0,f4,f5,_⟩:=st.r.blk hk hφ;have hgo:(getObj b).run P w=.ok (.map es' c0) w:=by simp [getObj,Sem.run,f4]
 refine ⟨E,.value (.int .i64 (.ofNat nn)),_,w,?_,.inl rfl,Env.le_refl E,st,by simp [Con]⟩;obtain ⟨callee,cargs,ctypes⟩:=c;have h1:=al_ h1;have h2:=al_ h2;subst hc h1 h2;unfold execOp;simp only [ho,resolve,Sem.run_bind,Sem.run_pure,Result.andThen_ok,invoke,builtin];simp_all [Builtin.len_,run_underlying,goInt]
end
section
variable [Gl]
def kv_ (T:Tm) (H:AHeap) (o:Oper):Option (XOp×List AV):=match o.op with
 | .convert s d x=>match look T x with
   | .sl id off len sz cap=>match len with
     |0=>none
     |n+1=>match ak_ H (.sl id off (Nat.succ n) sz cap) (Nat.succ n) 1 with
      |some l=>match ad_ l&&Nat.beq (aL_ l) (Nat.succ n)with
       |true=>some (.conv s d,[.vsl (Nat.succ n) 1 l])
       |false=>none
      |none=>none
   |_=>none
 |_=>none
omit [Gl]in
theorem kx_ (s:Nat->Option AV):∀l:List AV,(ab_ s l).length=l.length
 |[]=>rfl
 |a::r=>by simp only [ab_,List.length_cons,kx_ s r]
omit [Gl]in
theorem nT_ {P:Program} {B:World} {pr:Nat->Prop} {E:Env} {H:AHeap} {w:World} (hr:Rel B pr E H w) {src dst:TypeId} {id off n sz:Nat} {cap:Option Nat} {v:Value} {l:List AV} (hx:Con E (.sl id off (n+1) sz cap) v)
  (hl:ak_ H (.sl id off (n+1) sz cap) (n+1) 1=some l) (hso:ad_ l=true) (hln:l.length=n+1) {r:AV} (h:bL_ P h0 src dst (.vsl (n+1) 1 (ab_ E.sy l))=some r):Gives P B pr E w (convert src dst v) (r,H):=by
 unfold bL_ at h;split at h
 case h_2=>cases h
 rename_i e hs hd;split at h
 case h_2=>cases h
 rename_i he;have hl2:ak_ h0 (.vsl (n+1) 1 (ab_ E.sy l)) (n+1) 1=some (ab_ E.sy l):=by
  show aX_ (Nat.mul (n+1) 1) _=_;have e1:Nat.mul (n+1) 1=(ab_ E.sy l).length:=(by simp_all [kx_]);rw [e1];have:∀q:List AV,aX_ q.length q=some q:=λq=>by
   induction q<;>grind [List.length_cons,aX_]
  exact this _
 simp only [aU_,hl2]at h;split at h
 case h_2=>cases h
 split at h
 case h_2=>cases h
 rename_i s hbs;cases h;obtain ⟨vs,hf,hL,_⟩:=aR_ (P:=P) hr hx (m:=n+1) rfl (Nat.le_refl _) hl;obtain ⟨ns,rfl,hns⟩:=eC_ hbs (bQ_ hso hL).con;obtain ⟨b,o,m,c,off',_,_,rfl,_⟩:=hx;have hlc:(loadCells ⟨b,o+off',none⟩ (n+1)).run P w=.ok (ns.map (Value.int .u8)).toArray w:=by
  have hf':(loadCells ⟨b,o+off',none⟩ ((n+1)*1)).run P w=.ok (ns.map (Value.int .u8)).toArray w:=hf
  grind
 refine Gives.still hr (v:=.string ⟨⟨s⟩⟩) ?_ (by simp [Con]);rw [run_convert_bytes_string w src dst e _ _ c hs he hd,run_bytesToString w _ _ c ns hlc];have e1:ns.foldl (λr n=>r.push (UInt8.ofNat n.toNat)) ByteArray.empty=(ns.map (λn=>UInt8.ofNat n.toNat)).foldl (λr b=>r.push b) ByteArray.empty:=by rw [List.foldl_map]
 simp_all [iT_]
theorem kw_ {P:Program} {B:World} {pr:Nat->Prop} {E:Env} {T:Tm} {H:AHeap} {w:World} (hr:Rel B pr E H w) {σ:Operand->Value} (hσ:∀x,Con E (look T x) (σ x)) {o:Oper} {op:XOp} {args:List AV}
  (ha:kv_ T H o=some (op,args)) {r:AV} (h:op.run P (ab_ E.sy args)=some r):OpOk P B pr E w (execOp σ o) (.val r H):=by
 unfold kv_ at ha;split at ha
 case h_2=>cases ha
 rename_i s d x ho;split at ha
 case h_2=>cases ha
 rename_i id off len sz cap hx;split at ha
 case h_1=>cases ha
 rename_i n;split at ha
 case h_2=>cases ha
 rename_i l hl;split at ha
 case h_2=>cases ha
 rename_i hb;cases ha;obtain ⟨hso,hln⟩:=aa_ hb;have hln:=Nat.eq_of_beq_eq_true hln;rw [ai_]at hln;have h:b3_ P h0 s d (.vsl (n+1) 1 (ab_ E.sy l))=some r:=h;have hbs:bL_ P h0 s d (.vsl (n+1) 1 (ab_ E.sy l))=some r:=by
  unfold b3_ at h;have e1:fj_ P s d (.vsl (n+1) 1 (ab_ E.sy l))=none:=by
   grind [fj_]
  rw [e1]at h;simp only at h;split at h
  .grind
  cases h
 grind [execOp,OpOk.of_gives,nT_]
theorem p5_ {P:Program} {N:Nat} {o:Oper} {T:Tm} {H:AHeap} {op:XOp} {args:List AV} (ha:kv_ T H o=some (op,args)) {Y:Sy} {r:AV} (hr:op.run P (ab_ Y.v args)=some r)
  {B:World} {pr:Nat->Prop} {E:Env} {a:Act} {w:World} {D:Dfs} (hy:E.At Y) (st:St P B pr N E T H D a w):
  ∃E' n v w',(execOp a.eval o).run P w=.ok n w'/\(n=.value v\/(n=.skip/\v=undef))/\E.le E'/\St P B pr N E' T H D a w'/\Con E' r v:=by
 obtain ⟨E',n,v,w',h1,h2,h3,h4,h5⟩:=kw_ st.r (λx=>st.t.look x) ha (by rw [hy.v];exact hr);exact ⟨E',n,v,w',h1,h2,h3,⟨st.t.mono h3,h4,st.d.mono h3⟩,h5⟩
end
section
def fq_ (H:AHeap) (sz:Nat) (a:AV):Option (Nat×AV):=match a with
 | .nsl=>some (H.next,.nsl)
 | .sl id off len sz' cap=>match H.get id with
   |some (.cells cs)=>match Nat.beq off 0&&(Nat.beq sz' sz&&(Nat.beq (aL_ cs) (Nat.mul len sz)&&(ad_ cs&&bd_ cs)))with
    |true=>some (id,.vsl len sz cs)
    |false=>none
   |_=>none
 |_=>none
theorem gN_ {E:Env} {H:AHeap} {sz:Nat} {x b:AV} {xv:Value} (hx:Con E x xv) (h:hy_ H sz x=some b) {n:Nat} {l:List AV} (hb:by_ sz (den E.sy b)=some (n,l)) (hok:okL l=true):
  ∃xa l',Con E xa xv/\aU_ xa=some n/\ak_ H xa n sz=some l'/\bd_ l'=true/\ad_ l'=true/\l=ab_ E.sy l':=by
 have closed:∀b,ae_ b=true->x=b->(∀l,den E.sy b≠ .agg l)->by_ sz (den E.sy b)=some (n,l)->∃xa l',Con E xa xv/\aU_ xa=some n/\ak_ H xa n sz=some l'/\bd_ l'=true/\ad_ l'=true/\l=ab_ E.sy l':=by
  intro b hs e hna hb;subst e;have hc0:=ao_ hs hx;have hoff:=mi_ hc0;have:∃n',aU_ (den E.sy x)=some n'/\∃l',ak_ ⟨hnil,0,0⟩ (den E.sy x) n' sz=some l'/\n=n'/\l=l':=by
   unfold by_ at hb
   grind
  obtain ⟨_,h1,_,h2,rfl,rfl⟩:=this;refine ⟨_,l,hc0.con,h1,?_,iB_.okL_allOne hok,au_ hok,(a3_ _ hok).symm⟩
  grind [gI_]
 unfold hy_ at h;split at h;rename_i id2 off len sz' cap;split at h;rename_i l' hl;split at h;rename_i hbb;cases h;obtain ⟨b1,hbb⟩:=aa_ hbb;obtain ⟨b2,hbb⟩:=aa_ hbb;obtain ⟨b3,b4⟩:=aa_ hbb;have b3:=Nat.eq_of_beq_eq_true b3;rw [ai_]at b3;have b3:l'.length=len*sz:=b3;have b4:0<sz:=(by simp_all);simp only [den,by_,Option.some.injEq,Prod.mk.injEq]at hb;obtain ⟨e1,e2⟩:=hb;have e1:(ab_ E.sy l').length/sz=n:=(by rw [←e1,ai_];rfl);rw [a4_,b3,Nat.mul_div_cancel _ b4]at e1;subst e1;exact ⟨_,l',hx,rfl,hl,b2,b1,e2.symm⟩;cases h;cases h;cases h;refine closed _ rfl rfl (λl e=>?_) hb;have hx':=hx;obtain ⟨a,q1,q2,_⟩:=hx';simp only [den,q1]at e;subst e;cases q2;split at h;rename_i hs;cases h;exact closed _ (by grind [ae_]) rfl (λl e=>by simp [den]at e) hb;cases h;cases h;exact closed _ rfl rfl (λl e=>by simp [den]at e) hb;cases h;exact closed _ rfl rfl (λl e=>by simp [den]at e) hb;cases h
section
variable {P:Program} {B:World} {pr:Nat->Prop} {E:Env} {H:AHeap} {w:World}
theorem l8_ (hr:Rel B pr E H w) {id sz n m:Nat} {xa sa sd:AV} {l:List AV} {t tx ty e:TypeId} {info:TypeInfo} {z:Value} {dx:TypeDesc} {sv xv:Value} {r:AV}
  (ht:P.underlying t=some (.slice e)) (hi:P.info? e=some info) (hz:info.zero=some z) (htx:P.underlying tx=some dx) (hnot:ef_ dx=true) (hzl:Nat.beq (aL_ (at_ z)) info.size=true) (hsz:info.size=sz)
  (hs:Con E sa sv) (hx:Con E xa xv) (hh:fq_ H sz sa=some (id,sd)) (hroom:H.room=true)
  (hm:aU_ xa=some m) (hl:ak_ H xa m sz=some l) (hone:bd_ l=true) (hlok:ad_ l=true)
  (hrr:iA_ sz info.bytes (den E.sy sd) m (ab_ E.sy l)=some r) (hrok:okC r=true) (hn:E.sy n=some r):
  ∃E' v w',(Builtin.append_ #[t,tx] ty #[sv,xv]).run P w=.ok v w'/\E.sub E'/\E'.bim=E.bim/\((∀id,E.res id->E.vd id)->∀id,E'.res id->E'.vd id)/\Rel B pr E' ((H.erase id).push (.syl n)) w'/\Con E' (.slx H.next sz n) v/\(0<m->E.le E'):=by
 subst hsz;obtain ⟨r1,r2,r3⟩:=Rel.room hroom;unfold iA_ at hrr;split at hrr;cases hrr;rename_i hlen;have hlen:(ab_ E.sy l).length=m*info.size:=of_decide_eq_true hlen;rw [a4_]at hlen;have hlb:Nat.beq (aL_ l) (Nat.mul m info.size)=true:=by grind [ai_,Nat.beq_refl]
 unfold fq_ at hh;split at hh
 ·
  cases hh;simp only [den]at hrr;have hsame:∀j k,((H.erase H.next).push (.syl n)).get j=some k->(H.push (.syl n)).get j=some k:=λj k hj=>by
   by_cases e:H.next=j
   .have e1:((H.erase H.next).push (.syl n)).get H.next=some (.syl n):=AHeap.get_push_same (H.erase H.next) r2 _
    grind [AHeap.get_push_same]
   .have e1:((H.erase H.next).push (.syl n)).get j=(H.erase H.next).get j:=AHeap.get_push_ne (H.erase H.next) r2 e _
    grind [AHeap.get_erase_ne,AHeap.get_push_ne]
  cases m with
  |zero=>
   simp only [Option.some.injEq]at hrr;subst hrr;have hev:aq_ P H t tx .nsl xa=some (.nsl,H):=by simp_all [aq_]
   obtain ⟨E',v,w',g1,g2,g3,g4⟩:=aD_ (ty:=ty) hr hs hx hev;have hvn:=g3.newVoid hroom (n:=n) (by rw [g2.1.2.2.2.1];exact hn);refine ⟨E'.void H.next,v,w',g1,Env.sub_trans g2.1 (Env.sub_void _ _),g2.2.2.1,λhat j hj=>?_,hvn.same hsame rfl rfl,?_,λh=>absurd h (Nat.lt_irrefl 0)⟩;rcases hj with hj|hj;exact .inl (by rw [g2.2.2.2];exact hat j (by rw [←g2.2.1];exact hj));exact .inr hj;exact ⟨.nsl,by show E'.sy n=_;rw [g2.1.2.2.2.1];exact hn,.inl ⟨rfl,g4⟩⟩
  |succ m=>
   simp only at hrr;split at hrr
   .rename_i hb;cases hrr;have hev:aq_ P H t tx .nsl xa=some (.sl H.next 0 (m+1) info.size none,H.push (.cells l)):=by
     grind [aq_,cf_]
    obtain ⟨E',v,w',g1,g2,g3,g4⟩:=aD_ (ty:=ty) hr hs hx hev;obtain ⟨k1,k2⟩:=cW_ (H0:=H) g2.1 g3 g4 r2 hlok hn hrok hlen;exact ⟨E',v,w',g1,g2.1,g2.2.2.1,λhat j hj=>by rw [g2.2.2.2];exact hat j (by rw [←g2.2.1];exact hj),k1.same hsame rfl rfl,k2,λ_=>g2⟩
   cases hrr
 ·
  rename_i id' off len sz' cap;split at hh
  case h_2=>cases hh
  rename_i cs hk;split at hh
  case h_2=>cases hh
  rename_i hb0;cases hh;obtain ⟨b1,hb0⟩:=aa_ hb0;obtain ⟨b2,hb0⟩:=aa_ hb0;obtain ⟨b3,hb0⟩:=aa_ hb0;obtain ⟨b4,b5⟩:=aa_ hb0;have b1:=Nat.eq_of_beq_eq_true b1;have b2:=Nat.eq_of_beq_eq_true b2;have b3:=Nat.eq_of_beq_eq_true b3;rw [ai_]at b3;have hcl:cs.length=len*info.size:=b3;subst b1 b2;simp only [den]at hrr;split at hrr;cases hrr;have hc0:Con E (.sl id 0 len info.size none) sv:=by
   grind [Con]
  cases m with
  |zero=>
   simp only [Option.some.injEq]at hrr;subst hrr;have hev:aq_ P H t tx (.sl id 0 len info.size none) xa=some (.sl id 0 len info.size none,H):=by simp_all [aq_]
   obtain ⟨E',v,w',g1,g2,g3,g4⟩:=aD_ (ty:=ty) hr hc0 hx hev;have g4':=g4;obtain ⟨b,o,nn,c,off',q1,q2,q3,q4,q5,q6,_⟩:=g4';obtain ⟨arr,t',f1,f2,f3,f4⟩:=g3.blk hk q1;obtain ⟨p1,p2⟩:=g3.renew hroom hk q1 f1 f3 f4;have hsub:E.sub (E'.bind H.next b o):=Env.sub_trans g2.1 p1.1;have hcon2:Con (E'.bind H.next b o) (.sl H.next 0 len info.size none) v:=(by simp_all [Con,Env.bind]);obtain ⟨k1,k2⟩:=cW_ (H0:=H.erase id) hsub p2 hcon2 r2 b4 hn hrok hcl;exact ⟨_,v,w',g1,hsub,g2.2.2.1,λhat j hj=>by show E'.vd j;rw [g2.2.2.2];exact hat j (by rw [←g2.2.1];exact hj),k1,k2,λh=>absurd h (Nat.lt_irrefl 0)⟩
  |succ m=>
   simp only at hrr;split at hrr
   .rename_i hb;cases hrr;have hlc:Nat.beq (Nat.add 0 (Nat.mul len info.size)) (aL_ cs)=true:=by simp_all
    have hroomX:(H.erase id).room=true:=hroom;have hev:aq_ P H t tx (.sl id 0 len info.size none) xa=some (.sl (H.erase id).next 0 (Nat.add len (m+1)) info.size none,(H.erase id).push (.cells (cs++l))):=(by unfold aq_;simp only [ht,hi,hz,htx,hnot,hzl,Bool.and_self,hm,hl,hlb,Nat.beq_refl,hb,hk,hone,hlc,cf_,hroomX,aj_]);obtain ⟨E',v,w',g1,g2,g3,g4⟩:=aD_ (ty:=ty) hr hc0 hx hev
    obtain ⟨k1,k2⟩:=cW_ (H0:=H.erase id) g2.1 g3 g4 r2 (dK_ b4 hlok) (by rw [du_];exact hn) (by rw [du_];exact hrok) (by
     grind)
    exact ⟨E',v,w',g1,g2.1,g2.2.2.1,λhat j hj=>by rw [g2.2.2.2];exact hat j (by rw [←g2.2.1];exact hj),k1,k2,λ_=>g2⟩
   cases hrr
 cases hh
end
variable [Gl]
def cP_ (P:Program) (T:Tm) (H:AHeap) (o:Oper):Option (Nat×Nat×XOp×List AV):=match o.op with
 | .call c=>match c.callee with
   | .builtin b=>match b with
     | .append=>match c.args.toList,c.argTypes.toList with
       |[s,x],[t,tx]=>match H.room with
        |true=>match P.underlying t with
         |some (.slice e)=>match P.info? e with
          |some info=>match info.zero with
           |some z=>match P.underlying tx with
            |some dx=>match ef_ dx&&Nat.beq (aL_ (at_ z)) info.size with
               |true=>match fq_ H info.size (look T s)with
                |some (id,sd)=>match hy_ H info.size (look T x)with
                 |some b=>some (id,info.size,.app info.size info.bytes,[sd,b])
                 |none=>none
                |none=>none
               |false=>none
            |none=>none
           |none=>none
          |none=>none
         |_=>none
        |false=>none
       |_,_=>none
     |_=>none
   |_=>none
 |_=>none
theorem q6_ {P:Program} {N k:Nat} {o:Oper} {T:Tm} {H:AHeap} {id sz n:Nat} {op:XOp} {args:List AV} (ha:cP_ P T H o=some (id,sz,op,args)) {Y:Sy} (hf:Fresh Y n) {r:AV} (hr:op.run P (ab_ Y.v args)=some r) (hok:okC r=true)
  {B:World} {pr:Nat->Prop} {E:Env} {a:Act} {w:World} (hy:E.At Y) (st:St P B pr N E T H [] a w):
  ∃E' nx v w',(execOp a.eval o).run P w=.ok nx w'/\(nx=.value v\/(nx=.skip/\v=undef))/\E.leF k E'/\E'.At (Y.put n r)/\St P B pr N E' T ((H.erase id).push (.syl n)) [] a w'/\Con E' (.slx H.next sz n) v:=by
 unfold cP_ at ha;split at ha
 case h_2=>cases ha
 rename_i c ho;split at ha
 case h_2=>cases ha
 rename_i b hc;split at ha
 case h_2=>cases ha
 split at ha
 case h_2=>cases ha
 rename_i s x t tx h1 h2;split at ha
 case h_2=>cases ha
 rename_i hroom;split at ha
 case h_2=>cases ha
 rename_i e ht;split at ha
 case h_2=>cases ha
 rename_i info hi;split at ha
 case h_2=>cases ha
 rename_i z hz;split at ha
 case h_2=>cases ha
 rename_i dx htx;split at ha
 case h_2=>cases ha
 rename_i hb;split at ha
 case h_2=>cases ha
 rename_i id' sd hh;split at ha
 case h_2=>cases ha
 rename_i bb harg;cases ha;obtain ⟨hnot,hzl⟩:=aa_ hb;have hv:∀i x,E.sy i=some x->(Y.put n r).v i=some x:=λi x hx=>hf.sub_put r i x (by rw [←hy.v];exact hx);have hll:∀i l,E.syl i=some l->(Y.put n r).l i=some l:=λi l hx=>by rw [hy.l]at hx;exact hx
 have hlo:∀i,i<64->(Y.put n r).v i=E.sy i:=λi hi=>by rw [hy.v];exact hf.low r i hi
 have st1:=st.with hv hll hlo;have cs:=st1.t.look s;have cx:=st1.t.look x;simp only [ab_,XOp.run]at hr;split at hr
 case h_2=>cases hr
 rename_i m l hm;obtain ⟨xa,l',x1,x2,x3,x4,x5,rfl⟩:=gN_ (st.t.look x) harg (n:=m) (l:=l) (by rw [hy.v];exact hm) (h6_ hr hok);have x1':Con (E.with (Y.put n r)) xa (a.eval x):=x1.with hv hll;have hl2:ab_ (E.with (Y.put n r)).sy l'=ab_ E.sy l':=by obtain ⟨vs,_,hcl,_⟩:=aR_ (P:=P) st.r x1 x2 (Nat.le_refl _) x3;exact cG_ hv hcl
 have hsd:den (E.with (Y.put n r)).sy sd=den Y.v sd:=by
  have hcs:=st.t.look s;rw [←hy.v];unfold fq_ at hh;split at hh;cases hh;rfl
  .rename_i id2 off len sz2 cap hlook;split at hh
   case h_2=>cases hh
   rename_i cs2 hk;split at hh
   case h_2=>cases hh
   cases hh;rw [hlook]at hcs;obtain ⟨b2,o2,nn,c2,off2,q1,_⟩:=hcs;obtain ⟨arr,t2,f1,f2,f3,f4⟩:=st.r.blk hk q1;simp only [den]
   congr 1
   apply List.ext_getElem?;intro j;rw [cH_,cH_];cases hj:cs2[j]? with
   |none=>rfl
   |some y=>obtain ⟨vv,_,q⟩:=f4 j y hj;simp only [Option.map_some,Option.some.injEq];exact h9_ hv q
  cases hh
 obtain ⟨E',v,w',g1,g2,g3,g4,g5,g6,_⟩:=l8_ (ty:=o.type) st1.r (n:=n) ht hi hz htx hnot hzl rfl cs x1' hh hroom x2 x3 x4 x5 (by grind) hok (Sy.put_same _ _ _);obtain ⟨callee,cargs,ctypes⟩:=c;have h1:=al_ h1;have h2:=al_ h2;subst hc h1 h2
 refine ⟨E',.value v,v,w',?_,.inl rfl,(Env.with_leF k hlo).trans ⟨λi x _ hx=>g2.1 i x hx,g2.2.1,g2.2.2.1,g3,λi _=>by rw [g2.2.2.2.1]⟩,⟨g2.2.2.2.1,g2.2.2.2.2,g4 hy.res⟩,
  ⟨⟨st1.t.size,st1.t.le,λt ht=>(st1.t.con t ht).sub g2,st1.t.gl.sub g2⟩,g5,st1.d.sub g2⟩,g6⟩
 unfold execOp
 grind [resolve,Sem.run_bind,Sem.run_pure,Result.andThen_ok,invoke,builtin]
theorem p2_ {P:Program} {N:Nat} {o:Oper} {T:Tm} {H:AHeap} {id sz n:Nat} {op:XOp} {args:List AV} (ha:cP_ P T H o=some (id,sz,op,args)) {r:AV} (hok:okC r=true)
  {B:World} {pr:Nat->Prop} {E:Env} {a:Act} {w:World} (hpos:fP_ args=true\/∃i,da_ args=some i/\fF_ E.sy i) (hr:op.run P (ab_ E.sy args)=some r) (hn:E.sy n=some r) (hT:TRel E N T a.tmps) (hrel:Rel B pr E H w):
  ∃E' v w',(execOp a.eval o).run P w=.ok (.value v) w'/\E.le E'/\Rel B pr E' ((H.erase id).push (.syl n)) w'/\Con E' (.slx H.next sz n) v:=by
 unfold cP_ at ha;split at ha
 case h_2=>cases ha
 rename_i c ho;split at ha
 case h_2=>cases ha
 rename_i b hc;split at ha
 case h_2=>cases ha
 split at ha
 case h_2=>cases ha
 rename_i s x t tx h1 h2;split at ha
 case h_2=>cases ha
 rename_i hroom;split at ha
 case h_2=>cases ha
 rename_i e ht;split at ha
 case h_2=>cases ha
 rename_i info hi;split at ha
 case h_2=>cases ha
 rename_i z hz;split at ha
 case h_2=>cases ha
 rename_i dx htx;split at ha
 case h_2=>cases ha
 rename_i hb;split at ha
 case h_2=>cases ha
 rename_i id' sd hh;split at ha
 case h_2=>cases ha
 rename_i bb harg;cases ha;obtain ⟨hnot,hzl⟩:=aa_ hb;have cs:=hT.look s;simp only [ab_,XOp.run]at hr;split at hr
 case h_2=>cases hr
 rename_i m l hm;obtain ⟨xa,l',x1,x2,x3,x4,x5,rfl⟩:=gN_ (hT.look x) harg (n:=m) (l:=l) hm (h6_ hr hok);obtain ⟨E',v,w',g1,g2,g3,g4,g5,g6,g7⟩:=l8_ (ty:=o.type) hrel (n:=n) ht hi hz htx hnot hzl rfl cs x1 hh hroom x2 x3 x4 x5 hr hok hn;have hm0:0<m:=by
  rcases hpos with hpos|⟨i,hi,nn,zz,cc,hcc⟩
  rotate_left
  .cases bb with
   |sym k=>
    cases hi;simp only [den,hcc,Option.getD_some,by_,aU_]at hm
    grind
   |_=>cases hi
  cases bb with
  |vsl n0 z0 c0=>
   have hp:0<n0:=by have:Nat.blt 0 n0=true:=hpos;simp_all
   grind [den,by_,aU_]
  |agg l0=>
   have hp:0<l0.length:=by
    have:Nat.blt 0 (aL_ l0)=true:=hpos
    grind [ai_,Nat.blt_eq]
   have hm1:=(Prod.mk.inj (Option.some.inj hm)).1;rw [←hm1];obtain ⟨h0,len,hl⟩:=kl_ harg;rw [ai_,a4_,hl];show 0<len*info.size/info.size;simp_all
  |_=>cases hpos
 obtain ⟨callee,cargs,ctypes⟩:=c;have h1:=al_ h1;have h2:=al_ h2;subst hc h1 h2;refine ⟨E',v,w',?_,g7 hm0,g5,g6⟩;unfold execOp
 grind [resolve,Sem.run_bind,Sem.run_pure,Result.andThen_ok,invoke,builtin]
def ms_ (R:Tm) (o:Oper):AV:=match o.op with
 | .call c=>match c.args.toList with
   |[s,_]=>match look R s with
    | .sl id _ len z _=>.sl id 0 len z none
    | .nsl=>.nsl
    |_=>.opq
   |_=>.opq
 |_=>.opq
def ke_ (s:Nat->Option AV) (i:Nat):Prop:=s i=some .nsl\/∃z cs,s i=some (.vsl 0 z cs)
theorem q5_ {P:Program} {N:Nat} {o:Oper} {T:Tm} {H:AHeap} {id sz i:Nat} {op:XOp} {args:List AV} (ha:cP_ P T H o=some (id,sz,op,args)) (hs:da_ args=some i)
  {B:World} {pr:Nat->Prop} {E:Env} {a:Act} {w:World} (he:ke_ E.sy i) (hT:TRel E N T a.tmps) (hrel:Rel B pr E H w):
  ∃E' v w',(execOp a.eval o).run P w=.ok (.value v) w'/\E.le E'/\Rel B pr E' H w'/\Con E' (ms_ T o) v:=by
 unfold cP_ at ha;split at ha
 case h_2=>cases ha
 rename_i c ho;split at ha
 case h_2=>cases ha
 rename_i b hc;split at ha
 case h_2=>cases ha
 split at ha
 case h_2=>cases ha
 rename_i s x t tx h1 h2;split at ha
 case h_2=>cases ha
 rename_i hroom;split at ha
 case h_2=>cases ha
 rename_i e ht;split at ha
 case h_2=>cases ha
 rename_i info hi;split at ha
 case h_2=>cases ha
 rename_i z hz;split at ha
 case h_2=>cases ha
 rename_i dx htx;split at ha
 case h_2=>cases ha
 rename_i hb;split at ha
 case h_2=>cases ha
 rename_i id' sd hh;split at ha
 case h_2=>cases ha
 rename_i bb harg;cases ha;obtain ⟨hnot,hzl⟩:=aa_ hb;have hbb:bb=.sym i:=by cases bb<;>first|(cases hs;done)|(cases hs;rfl)
 subst hbb;have cs:=hT.look s;obtain ⟨xa,l',x1,x2,x3,x4,x5,hl'⟩:=gN_ (hT.look x) harg (n:=0) (l:=[]) (by
  rcases he with he|⟨z,cs,he⟩;simp only [den,he,Option.getD_some];rfl
  .have h0:Nat.mul 0 info.size=0:=Nat.zero_mul _;simp only [den,he,Option.getD_some,by_,aU_,ak_,h0];rfl) rfl
 have hl0:l'=[]:=by
  grind [a4_]
 subst hl0;have hlb:Nat.beq (aL_ ([]:List AV)) (Nat.mul 0 info.size)=true:=by simp [ai_]
 have hq:∃E' v w',(Builtin.append_ #[t,tx] o.type #[a.eval s,a.eval x]).run P w=.ok v w'/\E.le E'/\Rel B pr E' H w'/\Con E' (ms_ T o) v:=by
  unfold ms_;rw [ho];simp only [h1];unfold fq_ at hh;split at hh
  .rename_i hlk;rw [hlk]at cs⊢;have hev:aq_ P H t tx .nsl xa=some (.nsl,H):=by
    unfold aq_
    grind
   exact aD_ (ty:=o.type) hrel cs x1 hev
  .rename_i id2 off len sz2 cap hlk;split at hh
   case h_2=>cases hh
   split at hh
   case h_2=>cases hh
   rename_i hb0;obtain ⟨b1,hb0⟩:=aa_ hb0;obtain ⟨b2,hb0⟩:=aa_ hb0;have b1:=Nat.eq_of_beq_eq_true b1;have b2:=Nat.eq_of_beq_eq_true b2;subst b1 b2;rw [hlk]at cs⊢;have hc0:Con E (.sl id2 0 len info.size none) (a.eval s):=by
    grind [Con]
   have hev:aq_ P H t tx (.sl id2 0 len info.size none) xa=some (.sl id2 0 len info.size none,H):=(by unfold aq_;simp only [ht,hi,hz,htx,hnot,hzl,Bool.and_self,x2,x3,hlb,Nat.beq_refl]);exact aD_ (ty:=o.type) hrel hc0 x1 hev
  cases hh
 obtain ⟨E',v,w',g1,g2,g3,g4⟩:=hq;obtain ⟨callee,cargs,ctypes⟩:=c;have h1:=al_ h1;have h2:=al_ h2;subst hc h1 h2;refine ⟨E',v,w',?_,g2,g3,g4⟩;unfold execOp
 grind [resolve,Sem.run_bind,Sem.run_pure,Result.andThen_ok,invoke,builtin]
def uE_ (P:Program) (T:Tm) (o:Oper):Option (XOp×List AV):=match o.op with
 | .call c=>match c.callee with
   | .value f=>match f with
     | .func id=>match bW_ P id with
       |false=>match c.args.toList with
        |[x]=>match ae_ (look T x)with
         |true=>some (.ext id,[look T x])
         |false=>none
        |_=>none
       |true=>none
     |_=>none
   |_=>none
 |_=>none
theorem rv_ {P:Program} {N:Nat} {o:Oper} {T:Tm} {H:AHeap} {op:XOp} {args:List AV} (ha:uE_ P T o=some (op,args)) {Y:Sy} {r:AV} (hr:op.run P (ab_ Y.v args)=some r)
  {B:World} {pr:Nat->Prop} {E:Env} {a:Act} {w:World} {D:Dfs} (hy:E.At Y) (st:St P B pr N E T H D a w):
  ∃E' n v w',(execOp a.eval o).run P w=.ok n w'/\(n=.value v\/(n=.skip/\v=undef))/\E.le E'/\St P B pr N E' T H D a w'/\Con E' r v:=by
 unfold uE_ at ha;split at ha
 case h_2=>cases ha
 rename_i c ho;split at ha
 case h_2=>cases ha
 rename_i f hf;split at ha
 case h_2=>cases ha
 rename_i id;split at ha
 case h_2=>cases ha
 split at ha
 case h_2=>cases ha
 rename_i x hx;split at ha
 case h_2=>cases ha
 rename_i hs;cases ha;simp only [ab_,XOp.run]at hr;split at hr
 case h_2=>cases hr
 rename_i u hu;split at hr
 case h_2=>cases hr
 rename_i v hv;cases hr;have hc:=(ao_ hs (st.t.look x)).con;rw [hy.v]at hc;have hu':=eY_ hu hc;have hrun:=bx_ hv w;refine ⟨E,.value v,v,w,?_,.inl rfl,Env.le_refl E,st,cX_ E v⟩;have hx:=al_ hx;have ev:a.eval (.func id)=.func (.func id) #[] #[]:=rfl
 grind [execOp,resolve,Deferred.ofValue,invoke]
end
end Go.Sx
