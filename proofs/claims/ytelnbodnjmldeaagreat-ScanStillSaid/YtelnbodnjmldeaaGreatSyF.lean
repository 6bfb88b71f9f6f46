/-
  The ck_ wrap with a further condition, the world's shape kept.
-/
import Derived.Handed
import Derived.SizedLaws
import Derived.ChangeSame
import Derived.WalkKit
import Derived.ProofKit
import Derived.Defers
import Derived.Recover
import Derived.Orders
set_option linter.unusedVariables false
set_option linter.unusedSimpArgs false
open Nat renaming le_refl→za',le_of_lt→zb',mod_lt→zc',le_trans→zd',lt_of_lt_of_le→ze'
namespace Go.Sx
variable {H:Type} {enc:TypeId×Value->H}
theorem post_own {P:Program} {f:Func} {s:ChangeSpec} {apart fresh handsOn again:Bool} {W W':World} {args:Array Value} {v:Value} {ds gs:List (DataW H)} {before pa pv:List MemPlace}
  (hW:DataW.Whole enc P f.params.toList s.vars apart W args.toList ds gs before)
  (hres:∀(b:Nat) (sp:Nat->Bool) (hd:Bool),DataW.TrodAll enc P W' b sp hd f.resultTypes.toList (v.resultList f.resultTypes.size) (s.fn H (ds++gs)).results [])
  (hargs:∀sp:Nat->Bool,(∀p∈before,sp p.block=true)->DataW.TrodAll enc P W' 0 sp true f.params.toList args.toList (s.fn H (ds++gs)).args pa)
  (hvars:∀sp:Nat->Bool,(∀p∈before,sp p.block=true)->DataW.TrodVars enc P W' sp s.vars (s.fn H (ds++gs)).vars pv)
  (hps:before=pa++pv) (hk:W.keptBut W' (· ∈before)) (hfz:∀a,a.block<W.heap.size->W'.frozen? a=W.frozen? a)
  (hok:∀(j:Nat) (t:TypeId) (r:Value),f.resultTypes[j]? =some t->(v.resultList f.resultTypes.size)[j]? =some r->Value.okWide P W' .any 0 t r):
  s.post enc P f apart fresh handsOn again W args v W':=by
 have hlt:∀p∈pa++pv,p.block<W.heap.size:=λp hp=>hW.lt p (by grind);have hsp:∀p∈before,(λb=>decide (b<W.heap.size)) p.block=true:=λp hp=>decide_eq_true (hW.lt p hp);refine ⟨ds,gs,before,[],pa,pv,hW,hres _ _ _,hargs _ hsp,hvars _ hsp,World.keptBut_mono (λp hp=>⟨hp,Or.inr ?_⟩) hk,λ_=>⟨hok,_,_,([]++pa)++pv,⟨[]++pa,pv,ChangeShapes.trodAll_append (hargs _ (λ_ _=>rfl)) (hres _ _ _),hvars _ (λ_ _=>rfl),rfl,λb off hp=>?_,λha=>?_⟩,λp hp _=>?_⟩⟩
 .grind
 obtain ⟨_,_,_,_,_,hz,_⟩:=hW;rw [hfz _ (hlt _ hp)];exact hz b off (by grind)
 .obtain ⟨_,_,_,_,_,_,hn⟩:=hW
  grind
 grind
end Go.Sx
namespace Go.Sx
inductive AV where
 |opq
 |bool (b:Bool)
 |int (k:IntKind) (n:Int)
 |flt (k:FloatKind) (n:Nat)
 |nan (k:FloatKind)
 |str (s:List UInt8)
 |nptr
 |ptr (id off:Nat)
 |vptr (cs:List AV)
 |nsl
 |sl (id off len sz:Nat) (cap:Option Nat)
 |vsl (len sz:Nat) (cs:List AV)
 |nmap
 |map (id:Nat)
 |nfn
 |fn (f:FuncId) (cap:List AV)
 |nif
 |iface (t:TypeId) (v:AV)
 |agg (cs:List AV)
 |tup (cs:List AV)
 |sym (i:Nat)
 |slx (id sz i:Nat)
 |ptx (id j sz off:Nat)
 deriving Inhabited
inductive ABlk where
 |cells (cs:List AV)
 |map (es:List (AV×AV×Nat)) (clock:Nat)
 |syl (i:Nat)
 |fz (cs:List AV)
 |mpl (i:Nat)
 deriving Inhabited
structure Q8 (α:Type) where
 (a b c d e f g h:α)
namespace Q8
variable {α:Type}
inductive AtC (α:Type) where
 |mk (f:Q8 α->α)
def atc (α:Type) (i:Nat):AtC α:=match i with
 |0=>.mk λq=>Q8.casesOn q λa b c d e f g h=>a
 |1=>.mk λq=>Q8.casesOn q λa b c d e f g h=>b
 |2=>.mk λq=>Q8.casesOn q λa b c d e f g h=>c
 |3=>.mk λq=>Q8.casesOn q λa b c d e f g h=>d
 |4=>.mk λq=>Q8.casesOn q λa b c d e f g h=>e
 |5=>.mk λq=>Q8.casesOn q λa b c d e f g h=>f
 |6=>.mk λq=>Q8.casesOn q λa b c d e f g h=>g
 |_=>.mk λq=>Q8.casesOn q λa b c d e f g h=>h
inductive UpC (α:Type) where
 |mk (f:Q8 α->(α->α)->Q8 α)
def upc (α:Type) (i:Nat):UpC α:=match i with
 |0=>.mk λq u=>Q8.casesOn q λa b c d e f g h=>⟨u a,b,c,d,e,f,g,h⟩
 |1=>.mk λq u=>Q8.casesOn q λa b c d e f g h=>⟨a,u b,c,d,e,f,g,h⟩
 |2=>.mk λq u=>Q8.casesOn q λa b c d e f g h=>⟨a,b,u c,d,e,f,g,h⟩
 |3=>.mk λq u=>Q8.casesOn q λa b c d e f g h=>⟨a,b,c,u d,e,f,g,h⟩
 |4=>.mk λq u=>Q8.casesOn q λa b c d e f g h=>⟨a,b,c,d,u e,f,g,h⟩
 |5=>.mk λq u=>Q8.casesOn q λa b c d e f g h=>⟨a,b,c,d,e,u f,g,h⟩
 |6=>.mk λq u=>Q8.casesOn q λa b c d e f g h=>⟨a,b,c,d,e,f,u g,h⟩
 |_=>.mk λq u=>Q8.casesOn q λa b c d e f g h=>⟨a,b,c,d,e,f,g,u h⟩
def at8 (i:Nat) (q:Q8 α):α:=match atc α i with
 | .mk f=>f q
def up8 (i:Nat) (q:Q8 α) (u:α->α):Q8 α:=match upc α i with
 | .mk f=>f q u
def all (x:α):Q8 α:=⟨x,x,x,x,x,x,x,x⟩
theorem small {i:Nat} (h:i<8):i=0\/i=1\/i=2\/i=3\/i=4\/i=5\/i=6\/i=7:=by omega
theorem at_up_same (q:Q8 α) {i:Nat} (h:i<8) (u:α->α):at8 i (up8 i q u)=u (at8 i q):=by rcases small h with rfl|rfl|rfl|rfl|rfl|rfl|rfl|rfl<;>rfl
theorem at_up_ne (q:Q8 α) {i j:Nat} (h:i<8) (h':j<8) (hne:i≠j) (u:α->α):at8 j (up8 i q u)=at8 j q:=by rcases small h with rfl|rfl|rfl|rfl|rfl|rfl|rfl|rfl<;>rcases small h' with rfl|rfl|rfl|rfl|rfl|rfl|rfl|rfl<;>first|(exact absurd rfl hne)|rfl
theorem at_all (x:α) (i:Nat):at8 i (all x)=x:=by
 unfold at8 atc all;repeat' split
 grind
end Q8
abbrev HT:=Q8 (Q8 (Q8 (Q8 (Q8 (Option ABlk)))))
def top:Nat:=32768
def cg_ (t:HT) (k:Nat):Option ABlk:=
 Q8.at8 (Nat.mod k 8) (Q8.at8 (Nat.mod (Nat.div k 8) 8) (Q8.at8 (Nat.mod (Nat.div k 64) 8) (Q8.at8 (Nat.mod (Nat.div k 512) 8) (Q8.at8 (Nat.div k 4096) t))))
def cP_ (t:HT) (k:Nat) (x:Option ABlk):HT:=
 Q8.up8 (Nat.div k 4096) t λt=>Q8.up8 (Nat.mod (Nat.div k 512) 8) t λt=>Q8.up8 (Nat.mod (Nat.div k 64) 8) t λt=>Q8.up8 (Nat.mod (Nat.div k 8) 8) t λt=>Q8.up8 (Nat.mod k 8) t λ_=>x
def hnil:HT:=Q8.all (Q8.all (Q8.all (Q8.all (Q8.all none))))
theorem cE_ (k n:Nat):Nat.mod (Nat.div k n) 8<8:=zc' _ (by omega)
theorem f9_ (k:Nat):Nat.mod k 8<8:=zc' _ (by omega)
theorem c7_ (t:HT) {k:Nat} (h:k<top) (x:Option ABlk):cg_ (cP_ t k x) k=x:=by
 have h4:Nat.div k 4096<8:=by show k/4096<8;grind [top]
 grind [cg_,cP_,Q8.at_up_same,cE_,f9_]
theorem d8_ (t:HT) {k j:Nat} (h:k<top) (h':j<top) (hne:k≠j) (x:Option ABlk):cg_ (cP_ t k x) j=cg_ t j:=by
 have h4:Nat.div k 4096<8:=by show k/4096<8;unfold top at h;omega
 have h4':Nat.div j 4096<8:=by show j/4096<8;unfold top at h';omega
 unfold cg_ cP_;by_cases e4:Nat.div k 4096=Nat.div j 4096;rw [←e4,Q8.at_up_same _ h4];by_cases e3:Nat.mod (Nat.div k 512) 8=Nat.mod (Nat.div j 512) 8;rw [←e3,Q8.at_up_same _ (cE_ _ _)];by_cases e2:Nat.mod (Nat.div k 64) 8=Nat.mod (Nat.div j 64) 8;rw [←e2,Q8.at_up_same _ (cE_ _ _)];by_cases e1:Nat.mod (Nat.div k 8) 8=Nat.mod (Nat.div j 8) 8;rw [←e1,Q8.at_up_same _ (cE_ _ _)];by_cases e0:Nat.mod k 8=Nat.mod j 8;exfalso;have e4:k/4096=j/4096:=e4;have e3:k/512%8=j/512%8:=e3;have e2:k/64%8=j/64%8:=e2;have e1:k/8%8=j/8%8:=e1;have e0:k%8=j%8:=e0;omega;rw [Q8.at_up_ne _ (f9_ _) (f9_ _) e0];rw [Q8.at_up_ne _ (cE_ _ _) (cE_ _ _) e1];rw [Q8.at_up_ne _ (cE_ _ _) (cE_ _ _) e2];rw [Q8.at_up_ne _ (cE_ _ _) (cE_ _ _) e3];rw [Q8.at_up_ne _ h4 h4' e4]
theorem cW_ (k:Nat):cg_ hnil k=none:=by unfold cg_ hnil;rw [Q8.at_all,Q8.at_all,Q8.at_all,Q8.at_all,Q8.at_all]
structure AHeap where
 tr:HT
 next:Nat
 hi:Nat
namespace AHeap
def get (H:AHeap) (id:Nat):Option ABlk:=match Nat.blt id top with
 |true=>cg_ H.tr id
 |false=>none
def set (H:AHeap) (id:Nat) (b:ABlk):AHeap:=⟨cP_ H.tr id (some b),H.next,H.hi⟩
def erase (H:AHeap) (id:Nat):AHeap:=⟨match Nat.blt id top with
 |true=>cP_ H.tr id none
 |false=>H.tr,H.next,H.hi⟩
def push (H:AHeap) (b:ABlk):AHeap:=⟨cP_ H.tr H.next (some b),Nat.succ H.next,H.hi⟩
def room (H:AHeap):Bool:=Nat.blt H.next H.hi&&Nat.ble H.hi top
theorem get_lt {H:AHeap} {id:Nat} {b:ABlk} (h:H.get id=some b):id<top:=by
 unfold get at h;cases hb:Nat.blt id top with
 |true=>simpa [Nat.blt_eq]using hb
 |false=>simp [hb]at h
theorem get_of_lt {H:AHeap} {id:Nat} (h:id<top):H.get id=cg_ H.tr id:=by
 unfold get;have:Nat.blt id top=true:=by simpa [Nat.blt_eq]using h
 rw [this]
theorem j0_ {id:Nat} (h:¬id<top):Nat.blt id top=false:=by
 cases hb:Nat.blt id top with
 |true=>exact absurd (by simpa [Nat.blt_eq]using hb) h
 |false=>rfl
theorem get_of_ge {H:AHeap} {id:Nat} (h:¬id<top):H.get id=none:=by unfold get;rw [j0_ h]
theorem get_set_same (H:AHeap) {id:Nat} (h:id<top) (b:ABlk):(H.set id b).get id=some b:=by rw [get_of_lt h];exact c7_ _ h _
theorem get_set_ne (H:AHeap) {id j:Nat} (h:id<top) (hne:id≠j) (b:ABlk):(H.set id b).get j=H.get j:=by by_cases hj:j<top;rw [get_of_lt hj,get_of_lt hj];exact d8_ _ h hj hne _;rw [get_of_ge hj,get_of_ge hj]
theorem get_erase_same (H:AHeap) {id:Nat}:(H.erase id).get id=none:=by by_cases h:id<top;have hb:Nat.blt id top=true:=(by simpa [Nat.blt_eq]using h);rw [get_of_lt h];unfold erase;simp only [hb];exact c7_ _ h _;rw [get_of_ge h]
theorem get_erase_ne (H:AHeap) {id j:Nat} (hne:id≠j):(H.erase id).get j=H.get j:=by by_cases h:id<top;have hb:Nat.blt id top=true:=(by simpa [Nat.blt_eq]using h);by_cases hj:j<top;rw [get_of_lt hj,get_of_lt hj];unfold erase;simp only [hb];exact d8_ _ h hj hne _;rw [get_of_ge hj,get_of_ge hj];unfold erase;simp only [j0_ h]
theorem get_push_same (H:AHeap) (h:H.next<top) (b:ABlk):(H.push b).get H.next=some b:=by rw [get_of_lt h];exact c7_ _ h _
theorem get_push_ne (H:AHeap) (h:H.next<top) {j:Nat} (hne:H.next≠j) (b:ABlk):(H.push b).get j=H.get j:=by by_cases hj:j<top;rw [get_of_lt hj,get_of_lt hj];exact d8_ _ h hj hne _;rw [get_of_ge hj,get_of_ge hj]
end AHeap
structure Env where
 φ:Nat->Option (Nat×Nat)
 sz:Nat->Option Nat
 imm:Nat->Nat->Option Value
 res:Nat->Prop
 bim:Nat->Nat->Option Value
 sy:Nat->Option AV
 syl:Nat->Option (List AV)
 vd:Nat->Prop
def Env.sub (E E':Env):Prop:=
 (∀i x,E.φ i=some x->E'.φ i=some x)/\(∀b n,E.sz b=some n->E'.sz b=some n)/\(∀b o v,E.imm b o=some v->E'.imm b o=some v)/\E'.sy=E.sy/\E'.syl=E.syl
def Env.le (E E':Env):Prop:=E.sub E'/\E'.res=E.res/\E'.bim=E.bim/\E'.vd=E.vd
theorem Env.sub_refl (E:Env):E.sub E:=⟨λ_ _ h=>h,λ_ _ h=>h,λ_ _ _ h=>h,rfl,rfl⟩
theorem Env.sub_trans {E E' E'':Env} (h:E.sub E') (h':E'.sub E''):E.sub E'':=
 ⟨λi x hx=>h'.1 _ _ (h.1 i x hx),λb n hx=>h'.2.1 _ _ (h.2.1 b n hx),λb o v hx=>h'.2.2.1 _ _ _ (h.2.2.1 b o v hx),h'.2.2.2.1.trans h.2.2.2.1,h'.2.2.2.2.trans h.2.2.2.2⟩
theorem Env.le_refl (E:Env):E.le E:=⟨E.sub_refl,rfl,rfl,rfl⟩
theorem Env.le_trans {E E' E'':Env} (h:E.le E') (h':E'.le E''):E.le E'':=⟨Env.sub_trans h.1 h'.1,h'.2.1.trans h.2.1,h'.2.2.1.trans h.2.2.1,h'.2.2.2.trans h.2.2.2⟩
def ImmAt (E:Env) (b o:Nat) (vs:List Value):Prop:=∀(i:Nat) (v:Value),vs[i]? =some v->E.imm b (o+i)=some v
theorem ImmAt.sub {E E':Env} (h:E.sub E') {b o:Nat} {vs:List Value} (hi:ImmAt E b o vs):ImmAt E' b o vs:=
 λi v hv=>h.2.2.1 _ _ _ (hi i v hv)
def AV.one:AV->Bool
 | .agg _| .tup _| .opq=>false
 |_=>true
mutual
def Con0 (E:Env):AV->Value->Prop
 | .opq,_=>False
 | .bool b,v=>v=.bool b
 | .int k n,v=>v=.int k n
 | .flt k n,v=>v=.float k n
 | .nan k,v=>∃b,v=.float k b/\(k.format.read b).isNaN=true
 | .str s,v=>v=.string ⟨⟨s⟩⟩
 | .nptr,v=>v=.pointer none
 | .ptr _ _,_=>False
 | .vptr cs,v=>∃b o vs,v=.pointer (some ⟨b,o,none⟩)/\Con0L E cs vs/\ImmAt E b o vs
 | .nsl,v=>v=.slice none 0 0
 | .sl _ _ _ _ _,_=>False
 | .vsl len _ cs,v=>∃b o vs c,v=.slice (some ⟨b,o,none⟩) len c/\len<=c/\Con0L E cs vs/\ImmAt E b o vs
 | .nmap,v=>v=.map none
 | .map _,_=>False
 | .nfn,v=>v=.nilFunc
 | .fn f cap,v=>∃vs,v=.func (.func f) #[] ⟨vs⟩/\Con0L E cap vs
 | .nif,v=>v=.nilIface
 | .iface t a,v=>∃u,v=.iface t u/\Con0 E a u
 | .agg cs,v=>∃vs,v=.agg ⟨vs⟩/\Con0L E cs vs
 | .tup cs,v=>∃vs,v=.tuple ⟨vs⟩/\Con0L E cs vs
 | .sym _,_=>False
 | .slx _ _ _,_=>False
 | .ptx _ _ _ _,_=>False
def Con0L (E:Env):List AV->List Value->Prop
 |[],vs=>vs=[]
 |a::as,vs=>∃v r,vs=v::r/\Con0 E a v/\Con0L E as r
end
mutual
def Con (E:Env):AV->Value->Prop
 | .opq,_=>True
 | .bool b,v=>v=.bool b
 | .int k n,v=>v=.int k n
 | .flt k n,v=>v=.float k n
 | .nan k,v=>∃b,v=.float k b/\(k.format.read b).isNaN=true
 | .str s,v=>v=.string ⟨⟨s⟩⟩
 | .nptr,v=>v=.pointer none
 | .ptr id off,v=>∃b o,E.φ id=some (b,o)/\v=.pointer (some ⟨b,o+off,none⟩)
 | .vptr cs,v=>∃b o vs,v=.pointer (some ⟨b,o,none⟩)/\ConL E cs vs/\ImmAt E b o vs
 | .nsl,v=>v=.slice none 0 0
 | .sl id off len sz cap,v=>∃b o n c off',E.φ id=some (b,o)/\E.sz b=some n/\v=.slice (some ⟨b,o+off',none⟩) len c/\(c≠0->off'=off)/\
    len<=c/\o+off+c*sz<=n/\∀k,cap=some k->c=k
 | .vsl len _ cs,v=>∃b o vs c,v=.slice (some ⟨b,o,none⟩) len c/\len<=c/\ConL E cs vs/\ImmAt E b o vs
 | .nmap,v=>v=.map none
 | .map id,v=>∃b,E.φ id=some (b,0)/\v=.map (some b)
 | .nfn,v=>v=.nilFunc
 | .fn f cap,v=>∃vs,v=.func (.func f) #[] ⟨vs⟩/\ConL E cap vs
 | .nif,v=>v=.nilIface
 | .iface t a,v=>∃u,v=.iface t u/\Con E a u
 | .agg cs,v=>∃vs,v=.agg ⟨vs⟩/\ConL E cs vs
 | .tup cs,v=>∃vs,v=.tuple ⟨vs⟩/\ConL E cs vs
 | .sym i,v=>∃a,E.sy i=some a/\a.one=true/\Con0 E a v
 | .slx id sz i,v=>∃a,E.sy i=some a/\((a=.nsl/\v=.slice none 0 0)\/∃len cs,a=.vsl len sz cs/\∃b o n c off',E.φ id=some (b,o)/\E.sz b=some n/\v=.slice (some ⟨b,o+off',none⟩) len c/\(c≠0->off'=0)/\
    len<=c/\o+c*sz<=n)
 | .ptx id j sz off,v=>∃k n,E.sy j=some (.int k (.ofNat n))/\∃b o,E.φ id=some (b,o)/\v=.pointer (some ⟨b,o+(n*sz+off),none⟩)
def ConL (E:Env):List AV->List Value->Prop
 |[],vs=>vs=[]
 |a::as,vs=>∃v r,vs=v::r/\Con E a v/\ConL E as r
end
mutual
theorem Con0.sub {E E':Env} (h:E.sub E'):∀{a:AV} {v:Value},Con0 E a v->Con0 E' a v
 | .opq,_,hc=>by simp [Con0]at hc
 | .bool _,_,hc=>by simpa [Con0]using hc
 | .int _ _,_,hc=>by simpa [Con0]using hc
 | .flt _ _,_,hc=>by simpa [Con0]using hc
 | .nan _,_,hc=>by simpa [Con0]using hc
 | .str _,_,hc=>by simpa [Con0]using hc
 | .nptr,_,hc=>by simpa [Con0]using hc
 | .ptr id off,v,hc=>by simp [Con0]at hc
 | .vptr cs,v,hc=>by simp only [Con0]at hc⊢;obtain ⟨b,o,vs,h1,h2,h3⟩:=hc;exact ⟨b,o,vs,h1,Con0L.sub h h2,h3.sub h⟩
 | .nsl,_,hc=>by simpa [Con0]using hc
 | .sl ..,v,hc=>by simp [Con0]at hc
 | .vsl ..,v,hc=>by simp only [Con0]at hc⊢;obtain ⟨b,o,vs,c,h1,h2,h3,h4⟩:=hc;exact ⟨b,o,vs,c,h1,h2,Con0L.sub h h3,h4.sub h⟩
 | .nmap,_,hc=>by simpa [Con0]using hc
 | .map id,v,hc=>by simp [Con0]at hc
 | .nfn,_,hc=>by simpa [Con0]using hc
 | .fn f cap,v,hc=>by simp only [Con0]at hc⊢;obtain ⟨vs,h1,h2⟩:=hc;exact ⟨vs,h1,Con0L.sub h h2⟩
 | .nif,_,hc=>by simpa [Con0]using hc
 | .iface t a,v,hc=>by simp only [Con0]at hc⊢;obtain ⟨u,h1,h2⟩:=hc;exact ⟨u,h1,Con0.sub h h2⟩
 | .agg cs,v,hc=>by simp only [Con0]at hc⊢;obtain ⟨vs,h1,h2⟩:=hc;exact ⟨vs,h1,Con0L.sub h h2⟩
 | .tup cs,v,hc=>by simp only [Con0]at hc⊢;obtain ⟨vs,h1,h2⟩:=hc;exact ⟨vs,h1,Con0L.sub h h2⟩
 | .sym _,_,hc=>by simp [Con0]at hc
 | .slx ..,_,hc=>by simp [Con0]at hc
 | .ptx ..,_,hc=>by simp [Con0]at hc
theorem Con0L.sub {E E':Env} (h:E.sub E'):∀{as:List AV} {vs:List Value},Con0L E as vs->Con0L E' as vs
 |[],_,hc=>by simpa [Con0L]using hc
 |a::as,vs,hc=>by simp only [Con0L]at hc⊢;obtain ⟨v,r,h1,h2,h3⟩:=hc;exact ⟨v,r,h1,Con0.sub h h2,Con0L.sub h h3⟩
end
mutual
theorem Con0.con {E:Env}:∀{a:AV} {v:Value},Con0 E a v->Con E a v
 | .opq,_,hc=>by simp [Con0]at hc
 | .bool _,_,hc=>by simpa [Con0,Con]using hc
 | .int _ _,_,hc=>by simpa [Con0,Con]using hc
 | .flt _ _,_,hc=>by simpa [Con0,Con]using hc
 | .nan _,_,hc=>by simpa [Con0,Con]using hc
 | .str _,_,hc=>by simpa [Con0,Con]using hc
 | .nptr,_,hc=>by simpa [Con0,Con]using hc
 | .ptr id off,v,hc=>by simp [Con0]at hc
 | .vptr cs,v,hc=>by simp only [Con0]at hc;simp only [Con];obtain ⟨b,o,vs,h1,h2,h3⟩:=hc;exact ⟨b,o,vs,h1,Con0L.con h2,h3⟩
 | .nsl,_,hc=>by simpa [Con0,Con]using hc
 | .sl ..,v,hc=>by simp [Con0]at hc
 | .vsl ..,v,hc=>by simp only [Con0]at hc;simp only [Con];obtain ⟨b,o,vs,c,h1,h2,h3,h4⟩:=hc;exact ⟨b,o,vs,c,h1,h2,Con0L.con h3,h4⟩
 | .nmap,_,hc=>by simpa [Con0,Con]using hc
 | .map id,v,hc=>by simp [Con0]at hc
 | .nfn,_,hc=>by simpa [Con0,Con]using hc
 | .fn f cap,v,hc=>by simp only [Con0]at hc;simp only [Con];obtain ⟨vs,h1,h2⟩:=hc;exact ⟨vs,h1,Con0L.con h2⟩
 | .nif,_,hc=>by simpa [Con0,Con]using hc
 | .iface t a,v,hc=>by simp only [Con0]at hc;simp only [Con];obtain ⟨u,h1,h2⟩:=hc;exact ⟨u,h1,Con0.con h2⟩
 | .agg cs,v,hc=>by simp only [Con0]at hc;simp only [Con];obtain ⟨vs,h1,h2⟩:=hc;exact ⟨vs,h1,Con0L.con h2⟩
 | .tup cs,v,hc=>by simp only [Con0]at hc;simp only [Con];obtain ⟨vs,h1,h2⟩:=hc;exact ⟨vs,h1,Con0L.con h2⟩
 | .sym _,_,hc=>by simp [Con0]at hc
 | .slx ..,_,hc=>by simp [Con0]at hc
 | .ptx ..,_,hc=>by simp [Con0]at hc
theorem Con0L.con {E:Env}:∀{as:List AV} {vs:List Value},Con0L E as vs->ConL E as vs
 |[],_,hc=>by simpa [Con0L,ConL]using hc
 |a::as,vs,hc=>by simp only [Con0L]at hc;simp only [ConL];obtain ⟨v,r,h1,h2,h3⟩:=hc;exact ⟨v,r,h1,Con0.con h2,Con0L.con h3⟩
end
mutual
theorem Con.sub {E E':Env} (h:E.sub E'):∀{a:AV} {v:Value},Con E a v->Con E' a v
 | .opq,_,_=>by simp [Con]
 | .bool _,_,hc=>by simpa [Con]using hc
 | .int _ _,_,hc=>by simpa [Con]using hc
 | .flt _ _,_,hc=>by simpa [Con]using hc
 | .nan _,_,hc=>by simpa [Con]using hc
 | .str _,_,hc=>by simpa [Con]using hc
 | .nptr,_,hc=>by simpa [Con]using hc
 | .ptr id off,v,hc=>by simp only [Con]at hc⊢;obtain ⟨b,o,h1,h2⟩:=hc;exact ⟨b,o,h.1 _ _ h1,h2⟩
 | .vptr cs,v,hc=>by simp only [Con]at hc⊢;obtain ⟨b,o,vs,h1,h2,h3⟩:=hc;exact ⟨b,o,vs,h1,ConL.sub h h2,h3.sub h⟩
 | .nsl,_,hc=>by simpa [Con]using hc
 | .sl ..,v,hc=>by simp only [Con]at hc⊢;obtain ⟨b,o,n,c,off',h1,h2,h3⟩:=hc;exact ⟨b,o,n,c,off',h.1 _ _ h1,h.2.1 _ _ h2,h3⟩
 | .vsl ..,v,hc=>by simp only [Con]at hc⊢;obtain ⟨b,o,vs,c,h1,h2,h3,h4⟩:=hc;exact ⟨b,o,vs,c,h1,h2,ConL.sub h h3,h4.sub h⟩
 | .nmap,_,hc=>by simpa [Con]using hc
 | .map id,v,hc=>by simp only [Con]at hc⊢;obtain ⟨b,h1,h2⟩:=hc;exact ⟨b,h.1 _ _ h1,h2⟩
 | .nfn,_,hc=>by simpa [Con]using hc
 | .fn f cap,v,hc=>by simp only [Con]at hc⊢;obtain ⟨vs,h1,h2⟩:=hc;exact ⟨vs,h1,ConL.sub h h2⟩
 | .nif,_,hc=>by simpa [Con]using hc
 | .iface t a,v,hc=>by simp only [Con]at hc⊢;obtain ⟨u,h1,h2⟩:=hc;exact ⟨u,h1,Con.sub h h2⟩
 | .agg cs,v,hc=>by simp only [Con]at hc⊢;obtain ⟨vs,h1,h2⟩:=hc;exact ⟨vs,h1,ConL.sub h h2⟩
 | .tup cs,v,hc=>by simp only [Con]at hc⊢;obtain ⟨vs,h1,h2⟩:=hc;exact ⟨vs,h1,ConL.sub h h2⟩
 | .sym i,v,hc=>by simp only [Con]at hc⊢;obtain ⟨a,h1,h2,h3⟩:=hc;exact ⟨a,by rw [h.2.2.2.1];exact h1,h2,Con0.sub h h3⟩
 | .slx id sz i,v,hc=>by simp only [Con]at hc⊢;obtain ⟨a,h0,hc⟩:=hc;refine ⟨a,by rw [h.2.2.2.1];exact h0,hc.imp_right λ⟨len,cs,e,b,o,n,c,off',h1,h2,h3⟩=>⟨len,cs,e,b,o,n,c,off',h.1 _ _ h1,h.2.1 _ _ h2,h3⟩⟩
 | .ptx id j sz off,v,hc=>by simp only [Con]at hc⊢;obtain ⟨k,n,h0,b,o,h1,h2⟩:=hc;exact ⟨k,n,by rw [h.2.2.2.1];exact h0,b,o,h.1 _ _ h1,h2⟩
theorem ConL.sub {E E':Env} (h:E.sub E'):∀{as:List AV} {vs:List Value},ConL E as vs->ConL E' as vs
 |[],_,hc=>by simpa [ConL]using hc
 |a::as,vs,hc=>by simp only [ConL]at hc⊢;obtain ⟨v,r,h1,h2,h3⟩:=hc;exact ⟨v,r,h1,Con.sub h h2,ConL.sub h h3⟩
end
theorem Con.mono {E E':Env} (h:E.le E') {a:AV} {v:Value} (hc:Con E a v):Con E' a v:=Con.sub h.1 hc
theorem ConL.mono {E E':Env} (h:E.le E') {as:List AV} {vs:List Value} (hc:ConL E as vs):ConL E' as vs:=ConL.sub h.1 hc
theorem ImmAt.mono {E E':Env} (h:E.le E') {b o:Nat} {vs:List Value} (hi:ImmAt E b o vs):ImmAt E' b o vs:=ImmAt.sub h.1 hi
theorem ConL.length {E:Env}:∀{as:List AV} {vs:List Value},ConL E as vs->vs.length=as.length
 |[],_,h=>by simp only [ConL]at h;subst h;rfl
 |a::as,vs,h=>by simp only [ConL]at h;obtain ⟨v,r,rfl,_,h3⟩:=h;simp [h3.length]
theorem ConL.at {E:Env}:∀{as:List AV} {vs:List Value},ConL E as vs->∀(i:Nat) (a:AV),as[i]? =some a->∃v,vs[i]? =some v/\Con E a v
 |[],_,_,i,a,hi=>by simp at hi
 |a::as,vs,h,i,x,hi=>by
  simp only [ConL]at h;obtain ⟨v,r,rfl,h2,h3⟩:=h;cases i with
  |zero=>simp at hi;subst hi;exact ⟨v,rfl,h2⟩
  |succ i=>simpa using h3.at i x (by simpa using hi)
theorem ConL.of_at {E:Env}:∀{as:List AV} {vs:List Value},vs.length=as.length->(∀(i:Nat) (a:AV) (v:Value),as[i]? =some a->vs[i]? =some v->Con E a v)->ConL E as vs
 |[],vs,hl,_=>by simp only [ConL];exact List.eq_nil_of_length_eq_zero (by simpa using hl)
 |a::as,vs,hl,h=>by
  cases vs with
  |nil=>simp at hl
  |cons v r=>simp only [ConL];exact ⟨v,r,rfl,h 0 a v rfl rfl,ConL.of_at (by simpa using hl) (λi a v h1 h2=>h (i+1) a v (by simpa using h1) (by simpa using h2))⟩
theorem ConL.append {E:Env}:∀{as:List AV} {vs:List Value} {bs:List AV} {us:List Value},ConL E as vs->ConL E bs us->ConL E (as++bs) (vs++us)
 |[],_,_,_,h,h'=>by simp only [ConL]at h;subst h;simpa using h'
 |a::as,vs,bs,us,h,h'=>by simp only [ConL]at h;obtain ⟨v,r,rfl,h2,h3⟩:=h;simp only [List.cons_append,ConL];exact ⟨v,_,rfl,h2,h3.append h'⟩
theorem ConL.drop {E:Env} {as:List AV} {vs:List Value} (h:ConL E as vs) (n:Nat):ConL E (as.drop n) (vs.drop n):=by refine ConL.of_at (by simp [h.length]) λi a v h1 h2=>?_;simp only [List.getElem?_drop]at h1 h2;obtain ⟨v',h3,h4⟩:=h.at _ _ h1;rw [h2]at h3;cases h3;exact h4
theorem ConL.take {E:Env} {as:List AV} {vs:List Value} (h:ConL E as vs) (n:Nat):ConL E (as.take n) (vs.take n):=by refine ConL.of_at (by simp [h.length]) λi a v h1 h2=>?_;simp only [List.getElem?_take]at h1 h2;split at h1;rename_i hlt;simp only [hlt,if_true]at h2;obtain ⟨v',h3,h4⟩:=h.at _ _ h1;rw [h2]at h3;cases h3;exact h4;cases h1
theorem ConL.nil (E:Env):ConL E [] []:=by simp [ConL]
theorem ConL.cons {E:Env} {a:AV} {v:Value} {as:List AV} {vs:List Value} (h:Con E a v) (h':ConL E as vs):ConL E (a::as) (v::vs):=by simp only [ConL];exact ⟨v,vs,rfl,h,h'⟩
def AV.cells:AV->List AV
 | .agg cs=>cs
 |v=>[v]
theorem Con0.one {E:Env} {a:AV} {v:Value} (h:Con0 E a v) (ho:a.one=true):v.oneCell'=true:=by
 cases a<;>simp only [AV.one,Bool.false_eq_true]at ho<;>
  (simp only [Con0]at h<;>first
    |(subst h;rfl)
    |(obtain ⟨_,_,_,rfl,_⟩:=h;rfl)
    |(obtain ⟨_,_,_,_,rfl,_⟩:=h;rfl)
    |(obtain ⟨_,rfl,_⟩:=h;rfl))
theorem pF_ {v:Value} (h:v.oneCell'=true):v.cells.toList=[v]:=by cases v<;>first|rfl|(simp [Value.oneCell']at h)
theorem Con.one {E:Env} {a:AV} {v:Value} (h:Con E a v) (ho:a.one=true):v.oneCell'=true:=by
 cases a<;>simp only [AV.one,Bool.false_eq_true]at ho<;>
  (simp only [Con]at h;first
    |(subst h;rfl)
    |(obtain ⟨a,_,h1,h2⟩:=h;exact h2.one h1)
    |(obtain ⟨_,_,⟨_,rfl⟩|⟨_,_,_,_,_,_,_,_,_,_,rfl,_⟩⟩:=h<;>rfl)
    |(obtain ⟨_,_,_,_,_,_,_,_,_,rfl,_⟩:=h;rfl)
    |(obtain ⟨_,_,_,_,_,_,rfl⟩:=h;rfl)
    |(obtain ⟨_,_,_,rfl⟩:=h;rfl)
    |(obtain ⟨_,_,_,rfl,_⟩:=h;rfl)
    |(obtain ⟨_,_,_,_,_,_,_,rfl,_⟩:=h;rfl)
    |(obtain ⟨_,_,_,_,rfl,_⟩:=h;rfl)
    |(obtain ⟨_,_,rfl⟩:=h;rfl)
    |(obtain ⟨_,rfl,_⟩:=h;rfl))
theorem Con.cells {E:Env} {a:AV} {v:Value} (h:Con E a v) (ho:a≠ .opq):ConL E a.cells v.cells.toList:=by
 have one:a.one=true->ConL E [a] v.cells.toList:=λh1=>by rw [pF_ (h.one h1)];exact ConL.cons h (ConL.nil E)
 cases a with
 |opq=>exact absurd rfl ho
 |agg cs=>simp only [Con]at h;obtain ⟨vs,rfl,h2⟩:=h;simpa [Value.cells,AV.cells]using h2
 |tup cs=>simp only [AV.cells];have hc:=h;simp only [Con]at h;obtain ⟨vs,rfl,h2⟩:=h;simpa [Value.cells]using ConL.cons hc (ConL.nil E)
 |_=>exact one rfl
def ConE (E:Env):List (AV×AV×Nat)->List MapEntry->Prop
 |[],es=>es=[]
 |(k,v,n)::as,es=>∃e r,es=e::r/\Con E k e.key/\Con E v e.val/\e.born=n/\ConE E as r
theorem ConE.sub {E E':Env} (h:E.sub E'):∀{as:List (AV×AV×Nat)} {es:List MapEntry},ConE E as es->ConE E' as es
 |[],_,hc=>hc
 |(k,v,n)::as,es,hc=>by simp only [ConE]at hc⊢;obtain ⟨e,r,h1,h2,h3,h4,h5⟩:=hc;exact ⟨e,r,h1,h2.sub h,h3.sub h,h4,h5.sub h⟩
theorem ConE.mono {E E':Env} (h:E.le E') {as:List (AV×AV×Nat)} {es:List MapEntry} (hc:ConE E as es):ConE E' as es:=ConE.sub h.1 hc
def enK:AV->AV
 | .agg cs=>.iface 0 (.agg cs)
 | .iface t a=>.iface 0 (.iface t a)
 |k=>k
def unK:AV->AV
 | .iface t a=>match t with
   |0=>a
   |t+1=>.iface (t+1) a
 |k=>k
theorem id_ (k:AV):unK (enK k)=k:=by cases k<;>rfl
def ConM (E:Env):List AV->List MapEntry->Prop
 |[],es=>es=[]
 |[_],_=>False
 |k::v::r,es=>∃e t,es=e::t/\(enK (unK k)=k/\Con0 E (unK k) e.key)/\Con0 E v e.val/\ConM E r t
theorem ConM.imp {E E':Env} (h:∀a v,Con0 E a v->Con0 E' a v):∀{cs:List AV} {es:List MapEntry},ConM E cs es->ConM E' cs es
 |[],es,hc=>hc
 |[_],es,hc=>hc
 |k::v::r,es,hc=>by obtain ⟨e,t,h1,h2,h3,h4⟩:=hc;exact ⟨e,t,h1,⟨h2.1,h _ _ h2.2⟩,h _ _ h3,ConM.imp h h4⟩
def BlkAt (E:Env) (w:World) (b o:Nat):ABlk->Prop
 | .cells cs=>∃(arr:Array Value) (t:TypeId),w.heap[b]? =some (.cells arr t (0,0))/\E.sz b=some arr.size/\o+cs.length<=arr.size/\
    ∀(i:Nat) (a:AV),cs[i]? =some a->∃v,arr[o+i]? =some v/\Con E a v
 | .map es clock=>o=0/\∃es',w.heap[b]? =some (.map es' clock)/\ConE E es es'.toList
 | .syl j=>∃len sz cs,E.sy j=some (.vsl len sz cs)/\cs.length=len*sz/\∃(arr:Array Value) (t:TypeId),w.heap[b]? =some (.cells arr t (0,0))/\E.sz b=some arr.size/\o+cs.length<=arr.size/\
    ∀(i:Nat) (a:AV),cs[i]? =some a->∃v,arr[o+i]? =some v/\a.one=true/\Con0 E a v
 | .fz cs=>∃(arr:Array Value) (t:TypeId) (fr:Nat×Nat),w.heap[b]? =some (.cells arr t fr)/\E.sz b=some arr.size/\o+cs.length<=arr.size/\fr.2<=o+cs.length/\
    ∀(i:Nat) (a:AV),cs[i]? =some a->∃v,arr[o+i]? =some v/\Con E a v
 | .mpl j=>o=0/\∃n cs,E.sy j=some (.vsl n 2 cs)/\∃es' clock,w.heap[b]? =some (.map es' clock)/\es'.size=n/\ConM E cs es'.toList
theorem BlkAt.sub {E E':Env} {w w':World} {b o:Nat} {k:ABlk} (h:E.sub E') (hw:w'.heap[b]? =w.heap[b]?) (hk:BlkAt E w b o k):BlkAt E' w' b o k:=by
 cases k with
 |cells cs=>obtain ⟨arr,t,h1,h2,h3,h4⟩:=hk;refine ⟨arr,t,hw.trans h1,h.2.1 _ _ h2,h3,λi a ha=>?_⟩;obtain ⟨v,hv,hc⟩:=h4 i a ha;exact ⟨v,hv,hc.sub h⟩
 |map es clock=>obtain ⟨h0,es',h1,h2⟩:=hk;exact ⟨h0,es',hw.trans h1,h2.sub h⟩
 |syl j=>obtain ⟨len,sz,cs,h0,hlen,arr,t,h1,h2,h3,h4⟩:=hk;refine ⟨len,sz,cs,by rw [h.2.2.2.1];exact h0,hlen,arr,t,hw.trans h1,h.2.1 _ _ h2,h3,λi a ha=>?_⟩;obtain ⟨v,hv,ho,hc⟩:=h4 i a ha;exact ⟨v,hv,ho,hc.sub h⟩
 |fz cs=>obtain ⟨arr,t,fr,h1,h2,h3,h5,h4⟩:=hk;refine ⟨arr,t,fr,hw.trans h1,h.2.1 _ _ h2,h3,h5,λi a ha=>?_⟩;obtain ⟨v,hv,hc⟩:=h4 i a ha;exact ⟨v,hv,hc.sub h⟩
 |mpl j=>obtain ⟨h0,n,cs,h1,es',clock,h2,h3,h4⟩:=hk;exact ⟨h0,n,cs,by rw [h.2.2.2.1];exact h1,es',clock,hw.trans h2,h3,h4.imp λ_ _ hc=>hc.sub h⟩
theorem BlkAt.mono {E E':Env} {w w':World} {b o:Nat} {k:ABlk} (h:E.le E') (hw:w'.heap[b]? =w.heap[b]?) (hk:BlkAt E w b o k):BlkAt E' w' b o k:=BlkAt.sub h.1 hw hk
def Void (E:Env):ABlk->Prop
 | .syl j=>E.sy j=some .nsl
 |_=>False
theorem Void.sub {E E':Env} (h:∀i,E.sy i=some .nsl->E'.sy i=some .nsl) {k:ABlk} (hv:Void E k):Void E' k:=by
 cases k with
 |syl j=>exact h j hv
 |_=>exact hv
def RowAt (E:Env) (w:World) (own:Nat->Option Nat) (id:Nat) (k:ABlk):Prop:=(E.vd id/\Void E k)\/∃b o,E.φ id=some (b,o)/\own b=some id/\BlkAt E w b o k
theorem RowAt.imp {E E':Env} {w w':World} {own own':Nat->Option Nat} {id:Nat} {k k':ABlk} (h:RowAt E w own id k) (hφ:∀x,E.φ id=some x->E'.φ id=some x) (hv:E.vd id/\Void E k->E'.vd id/\Void E' k')
  (hb:∀b o,E.φ id=some (b,o)->own b=some id->BlkAt E w b o k->own' b=some id/\BlkAt E' w' b o k'):RowAt E' w' own' id k':=by
 rcases h with h|⟨b,o,h1,h2,h3⟩;exact .inl (hv h);exact .inr ⟨b,o,hφ _ h1,hb b o h1 h2 h3⟩
structure Rel (B:World) (pr:Nat->Prop) (E:Env) (H:AHeap) (w:World):Prop where
 own:∃own:Nat->Option Nat,
  (∀id k,H.get id=some k->RowAt E w own id k)/\
  (∀b,pr b->own b=none)/\(∀b o v,E.imm b o=some v->own b=none)
 imm:∀b o v,E.imm b o=some v->w.cell? ⟨b,o,none⟩=some v
 ib:∀b o v,pr b->E.imm b o=some v->E.bim b o=some v
 fresh:∀id,H.next<=id->id<H.hi->E.φ id=none
 resv:∀id,E.res id->E.φ id=none/\¬(H.next<=id/\id<H.hi)
 vds:∀id,E.vd id->E.res id
 szs:∀b n,E.sz b=some n->∃arr t fr,w.heap[b]? =some (.cells arr t fr)/\arr.size=n
 prot:∀b,pr b->b<B.heap.size/\w.heap[b]? =B.heap[b]?
 size:B.heap.size<=w.heap.size
 os:w.os=B.os
 output:w.output=B.output
section
variable {B:World} {pr:Nat->Prop} {E:Env} {H:AHeap} {w:World}
theorem Rel.drawn (h:Rel B pr E H w) (n:Nat):Rel B pr E H { w with drawn:=n } where
 own:=by obtain ⟨own,h1,h2⟩:=h.own;refine ⟨own,λid k hk=>?_,h2⟩;exact (h1 id k hk).imp (λ_ h=>h) (λh=>h) λb o hφ ho hb=>⟨ho,hb.mono (Env.le_refl _) rfl⟩
 imm:=h.imm
 ib:=h.ib
 fresh:=h.fresh
 resv:=h.resv
 vds:=h.vds
 szs:=h.szs
 prot:=h.prot
 size:=h.size
 os:=h.os
 output:=h.output
theorem Rel.blk (h:Rel B pr E H w) {id:Nat} {k:ABlk} (hk:H.get id=some k) {b o:Nat} (hφ:E.φ id=some (b,o)) (hnv:¬Void E k:=by exact λh=>h):BlkAt E w b o k:=by obtain ⟨own,h1,_⟩:=h.own;obtain ⟨_,hv⟩|⟨b',o',hφ',_,hb⟩:=h1 id k hk;exact absurd hv hnv;rw [hφ]at hφ';cases hφ';exact hb
end
end Go.Sx
namespace Go.Sx
theorem getElem?_lt_of_some {α:Type} {xs:Array α} {i:Nat} {x:α} (h:xs[i]? =some x):i<xs.size:=by
 grind
theorem aN_ {w:World} {o:Obj} {i:Nat} (h:i≠w.heap.size):(w.alloc o).heap[i]? =w.heap[i]? :=by simp only [World.alloc,Array.getElem?_push];rw [if_neg h]
theorem cw_ {w:World} {o:Obj}:(w.alloc o).heap[w.heap.size]? =some o:=by show (w.heap.push o)[w.heap.size]? =some o;simp
theorem fG_ {w:World} {o:Obj} {a:Addr} {v:Value} (h:w.cell? a=some v):(w.alloc o).cell? a=some v:=by
 grind [World.cell?,aN_]
theorem BlkAt.lt {E:Env} {w:World} {b o:Nat} {k:ABlk} (h:BlkAt E w b o k):b<w.heap.size:=by
 cases k with
 |cells cs=>grind [Go.Sx.BlkAt]
 |map es c=>grind [Go.Sx.BlkAt]
 |syl j=>grind [Go.Sx.BlkAt]
 |fz cs=>grind [Go.Sx.BlkAt]
 |mpl j=>grind [Go.Sx.BlkAt]
def Env.bind (E:Env) (id b o:Nat):Env:={ E with φ:=λi=>if i=id then some (b,o)else E.φ i }
def Env.size (E:Env) (b n:Nat):Env:={ E with sz:=λi=>if i=b then some n else E.sz i }
theorem Env.le_bind {E:Env} {id b o:Nat} (h:E.φ id=none):E.le (E.bind id b o):=by
 refine ⟨⟨λi x hx=>?_,λ_ _ h=>h,λ_ _ _ h=>h,rfl,rfl⟩,rfl,rfl,rfl⟩
 grind [Env.bind]
theorem Env.le_size {E:Env} {b n:Nat} (h:E.sz b=none):E.le (E.size b n):=by
 refine ⟨⟨λ_ _ h=>h,λi x hx=>?_,λ_ _ _ h=>h,rfl,rfl⟩,rfl,rfl,rfl⟩
 grind [Env.size]
section
variable {B:World} {pr:Nat->Prop} {E:Env} {H:AHeap} {w:World}
theorem Rel.sz_new (h:Rel B pr E H w):E.sz w.heap.size=none:=by
 cases hs:E.sz w.heap.size with
 |none=>rfl
 |some n=>obtain ⟨arr,t,fr,h1,_⟩:=h.szs _ _ hs;simp at h1
theorem Rel.room (h:H.room=true):H.next<H.hi/\H.next<top/\H.hi<=top:=by simp only [AHeap.room,Bool.and_eq_true,Nat.blt_eq,Nat.ble_eq]at h;omega
theorem Rel.resv_bind (h:Rel B pr E H w) (h1:H.next<H.hi) {b o:Nat} (id:Nat) (hi:E.res id):(E.bind H.next b o).φ id=none/\¬(Nat.succ H.next<=id/\id<H.hi):=by
 obtain ⟨q1,q2⟩:=h.resv id hi
 grind [Env.bind]
theorem Rel.new_cells (h:Rel B pr E H w) (hr:H.room=true) {cs:List AV} {arr:Array Value} {t:TypeId} (hl:cs.length<=arr.size)
  (hc:∀(i:Nat) (a:AV),cs[i]? =some a->∃v,arr[i]? =some v/\Con E a v):
  E.le ((E.bind H.next w.heap.size 0).size w.heap.size arr.size)/\
  Rel B pr ((E.bind H.next w.heap.size 0).size w.heap.size arr.size) (H.push (.cells cs)) (w.alloc (.cells arr t)):=by
 obtain ⟨h1,h2,h3⟩:=Rel.room hr;have hf:=h.fresh H.next (za' _) h1;have hle:E.le ((E.bind H.next w.heap.size 0).size w.heap.size arr.size):=Env.le_trans (Env.le_bind hf) (Env.le_size (by exact h.sz_new));refine ⟨hle,?_⟩;refine { own:=?_,ib:=h.ib,imm:=λb o v hi=>fG_ (h.imm b o v hi),fresh:=?_,resv:=h.resv_bind h1,vds:=h.vds,szs:=?_,prot:=?_,size:=?_,os:=h.os,output:=h.output }
 .obtain ⟨own,g1,g2,g3⟩:=h.own;refine ⟨λb=>if b=w.heap.size then some H.next else own b,λid k hk=>?_,λb hb=>?_,λb o v hi=>?_⟩;by_cases hid:H.next=id;subst hid;rw [AHeap.get_push_same H h2]at hk;cases hk;refine .inr ⟨w.heap.size,0,by simp [Env.bind,Env.size],by simp,arr,t,cw_,by simp [Env.size],by omega,λi a ha=>?_⟩;obtain ⟨v,hv,hcv⟩:=hc i a ha;exact ⟨v,by grind,hcv.mono hle⟩;rw [AHeap.get_push_ne H h2 hid]at hk;refine (g1 id k hk).imp (λx hx=>hle.1.1 _ _ hx) (λh=>h) λb o hφ ho hb=>?_;have hlt:=hb.lt;have hne:b≠w.heap.size:=(by omega);exact ⟨by grind,hb.mono hle (aN_ hne)⟩
  .have:=(h.prot b hb).1;have hs:=h.size
   grind
  .have hcell:=h.imm b o v hi;have hne:b≠w.heap.size:=by
    grind [World.cell?]
   simp [hne,g3 b o v hi]
 .intro id hid1 hid2;have hne:id≠H.next:=by have:H.next<id:=hid1;omega
  have:H.next<=id:=zb' hid1;simp only [Env.size,Env.bind,if_neg hne];exact h.fresh id this hid2
 .intro b n hn;by_cases hb:b=w.heap.size;subst hb;simp only [Env.size,if_pos]at hn;cases hn;exact ⟨arr,t,_,cw_,rfl⟩
  .simp only [Env.size,if_neg hb]at hn;obtain ⟨arr',t',fr',g1,g2⟩:=h.szs b n hn
   grind [aN_]
 .intro b hb;obtain ⟨g1,g2⟩:=h.prot b hb
  grind [aN_]
 have:=h.size;simp;omega
theorem Rel.set_cells (h:Rel B pr E H w) {id:Nat} {k:ABlk} (hk:H.get id=some k) {b o:Nat} (hφ:E.φ id=some (b,o))
  {arr:Array Value} {t:TypeId} (hg:w.heap[b]? =some (.cells arr t (0,0))) {arr':Array Value} (hsz:arr'.size=arr.size) {cs':List AV} (hl:o+cs'.length<=arr.size)
  (hc:∀(i:Nat) (a:AV),cs'[i]? =some a->∃v,arr'[o+i]? =some v/\Con E a v) (hnv:¬Void E k:=by exact λh=>h):
  Rel B pr E (H.set id (.cells cs')) (w.setRow b arr'):=by
 obtain ⟨own,g1,g2,g3⟩:=h.own;obtain ⟨_,hvoid⟩|⟨b',o',hφ',hown,hb⟩:=g1 id k hk
 .grind
 rw [hφ]at hφ';cases hφ';have hidlt:=AHeap.get_lt hk;have hnew:(w.setRow b arr').heap[b]? =some (.cells arr' t (0,0)):=setRow_heap w b arr arr' t (0,0) hg;refine { own:=⟨own,λid' k' hk'=>?_,g2,g3⟩,ib:=h.ib,imm:=?_,fresh:=h.fresh,resv:=h.resv,vds:=h.vds,szs:=?_,prot:=?_,size:=by simpa using h.size,os:=h.os,output:=h.output }
 .by_cases hid:id=id'
  .subst hid;rw [AHeap.get_set_same H hidlt]at hk';cases hk';refine .inr ⟨b,o,hφ,hown,arr',t,hnew,?_,by omega,hc⟩;rw [hsz];cases k with
   |cells cs=>simp_all [Go.Sx.BlkAt]
   |map es c=>simp_all [Go.Sx.BlkAt]
   |syl j=>obtain ⟨_,_,_,_,_,arr2,t2,e1,e2,_⟩:=hb;grind
   |fz cs=>obtain ⟨arr2,t2,fr2,e1,e2,_⟩:=hb;grind
   |mpl j=>simp_all [Go.Sx.BlkAt]
  .rw [AHeap.get_set_ne H hidlt hid]at hk';refine (g1 id' k' hk').imp (λ_ h=>h) (λh=>h) λb2 o2 hφ2 hown2 hb2=>?_;have hne:b2≠b:=by
    grind
   exact ⟨hown2,hb2.mono (Env.le_refl _) (setRow_other w b b2 arr' hne)⟩
 intro b2 o2 v hi;have hne:b2≠b:=(by grind);rw [cell_setRow_other w b arr' _ hne];exact h.imm b2 o2 v hi
 .intro b2 n hn;obtain ⟨arr2,t2,fr2,e1,e2⟩:=h.szs b2 n hn
  grind [setRow_other]
 intro b2 hb2;have hne:b2≠b:=(by grind);exact ⟨(h.prot b2 hb2).1,(setRow_other w b b2 arr' hne).trans (h.prot b2 hb2).2⟩
theorem Rel.forget (h:Rel B pr E H w) {H':AHeap} (hsub:∀id k,H'.get id=some k->H.get id=some k) (hn:H.next<=H'.next) (hh:H'.hi<=H.hi):Rel B pr E H' w:=by
 obtain ⟨own,g1,g2⟩:=h.own
 exact { own:=⟨own,λid k hk=>g1 id k (hsub id k hk),g2⟩,ib:=h.ib,imm:=h.imm,fresh:=λid h1 h2=>h.fresh id (zd' hn h1) (ze' h2 hh),resv:=λid hi=>⟨(h.resv id hi).1,λhx=>(h.resv id hi).2 ⟨zd' hn hx.1,ze' hx.2 hh⟩⟩,vds:=h.vds,szs:=h.szs,prot:=h.prot,
         size:=h.size,os:=h.os,output:=h.output }
theorem Rel.erase (h:Rel B pr E H w) (id:Nat):Rel B pr E (H.erase id) w:=by
 refine h.forget (λid' k hk=>?_) (za' _) (za' _)
 grind [AHeap.get_erase_same,AHeap.get_erase_ne]
theorem Rel.renew (h:Rel B pr E H w) (hr:H.room=true) {id:Nat} {k:ABlk} (hk:H.get id=some k) {b o:Nat} (hφ:E.φ id=some (b,o))
  {arr:Array Value} {t:TypeId} (hg:w.heap[b]? =some (.cells arr t (0,0))) {o':Nat} {cs':List AV} (hl:o'+cs'.length<=arr.size)
  (hc:∀(i:Nat) (a:AV),cs'[i]? =some a->∃v,arr[o'+i]? =some v/\Con E a v) (hnv:¬Void E k:=by exact λh=>h):
  E.le (E.bind H.next b o')/\Rel B pr (E.bind H.next b o') ((H.erase id).push (.cells cs')) w:=by
 obtain ⟨h1,h2,h3⟩:=Rel.room hr;have hf:=h.fresh H.next (za' _) h1;have hle:E.le (E.bind H.next b o'):=Env.le_bind hf;refine ⟨hle,?_⟩;obtain ⟨own,g1,g2,g3⟩:=h.own;obtain ⟨_,hvoid⟩|⟨b',o2,hφ',hown,hb⟩:=g1 id k hk
 .grind
 rw [hφ]at hφ';cases hφ';have hsz:E.sz b=some arr.size:=by
  cases k with
  |cells cs=>
   obtain ⟨arr2,t2,e1,e2,_⟩:=hb
   grind
  |map es c=>obtain ⟨_,es',e1,_⟩:=hb;grind
  |syl j=>obtain ⟨_,_,_,_,_,arr2,t2,e1,e2,_⟩:=hb;grind
  |fz cs=>obtain ⟨arr2,t2,fr2,e1,e2,_⟩:=hb;grind
  |mpl j=>obtain ⟨_,_,_,_,es',c,e1,_⟩:=hb;grind
 refine { own:=?_,ib:=h.ib,imm:=h.imm,fresh:=?_,resv:=h.resv_bind h1,vds:=h.vds,szs:=h.szs,prot:=h.prot,size:=h.size,os:=h.os,output:=h.output }
 .refine ⟨λx=>if x=b then some H.next else own x,λid' k' hk'=>?_,λx hx=>?_,λx y v hi=>?_⟩;by_cases hid':H.next=id';subst hid';have e:((H.erase id).push (.cells cs')).get H.next=some (.cells cs'):=AHeap.get_push_same (H.erase id) h2 _;rw [e]at hk';cases hk';refine .inr ⟨b,o',by simp [Env.bind],by simp,arr,t,hg,hsz,hl,λi a ha=>?_⟩;obtain ⟨v,hv,hcv⟩:=hc i a ha;exact ⟨v,hv,hcv.mono hle⟩;have e:((H.erase id).push (.cells cs')).get id'=(H.erase id).get id':=AHeap.get_push_ne (H.erase id) h2 hid' _;rw [e]at hk';have hne:id≠id':=(by grind [AHeap.get_erase_same]);rw [AHeap.get_erase_ne H hne]at hk';refine (g1 id' k' hk').imp (λx hx=>hle.1.1 _ _ hx) (λh=>h) λb3 o3 hφ3 hown3 hb3=>?_;have hneb:b3≠b:=(by grind);exact ⟨by grind,hb3.mono hle rfl⟩
  .grind
  have hne:x≠b:=(by intro e;subst e;rw [g3 _ _ _ hi]at hown;cases hown);simp [hne,g3 x y v hi]
 intro i hi1 hi2;have hlt:H.next<i:=hi1;have hne:i≠H.next:=(by omega);simp only [Env.bind,if_neg hne];exact h.fresh i (zb' hlt) hi2
theorem Rel.moveF (h:Rel B pr E H w) (hr:H.room=true) {id:Nat} {k:ABlk} (hk:H.get id=some k) {b o:Nat} (hφ:E.φ id=some (b,o))
  {arr:Array Value} {t:TypeId} {fr:Nat×Nat} (hg:w.heap[b]? =some (.cells arr t fr)) (hs:E.sz b=some arr.size) {arr':Array Value} (hsz:arr'.size=arr.size) {o':Nat} {cs':List AV} (hl:o'+cs'.length<=arr.size) (hfr:fr.2<=o'+cs'.length)
  (hc:∀(i:Nat) (a:AV),cs'[i]? =some a->∃v,arr'[o'+i]? =some v/\Con E a v) (hnv:¬Void E k:=by exact λh=>h):
  E.le (E.bind H.next b o')/\Rel B pr (E.bind H.next b o') ((H.erase id).push (.fz cs')) (w.setRow b arr'):=by
 obtain ⟨h1,h2,h3⟩:=Rel.room hr;have hf:=h.fresh H.next (za' _) h1;have hle:E.le (E.bind H.next b o'):=Env.le_bind hf;refine ⟨hle,?_⟩;have hid:=AHeap.get_lt hk;obtain ⟨own,g1,g2,g3⟩:=h.own;obtain ⟨_,hvoid⟩|⟨b',o2,hφ',hown,hb⟩:=g1 id k hk
 .grind
 rw [hφ]at hφ';cases hφ';have hnew:(w.setRow b arr').heap[b]? =some (.cells arr' t fr):=setRow_heap w b arr arr' t fr hg;have hpr:∀x,pr x->x≠b:=λx hx e=>by grind
 have him:∀x y v,E.imm x y=some v->x≠b:=λx y v hx e=>by grind
 refine { own:=?_,imm:=λx y v hi=>?_,ib:=h.ib,fresh:=?_,resv:=h.resv_bind h1,vds:=h.vds,szs:=λx n hn=>?_,prot:=λx hx=>?_,size:=by simpa using h.size,os:=h.os,output:=h.output }
 .refine ⟨λx=>if x=b then some H.next else own x,λid' k' hk'=>?_,λx hx=>?_,λx y v hi=>?_⟩;by_cases hid':H.next=id';subst hid';have e:((H.erase id).push (.fz cs')).get H.next=some (.fz cs'):=AHeap.get_push_same (H.erase id) h2 _;rw [e]at hk';cases hk';refine .inr ⟨b,o',by simp [Env.bind],by simp,arr',t,fr,hnew,by rw [hsz];exact hs,by omega,hfr,λi a ha=>?_⟩;obtain ⟨v,hv,hcv⟩:=hc i a ha;exact ⟨v,hv,hcv.mono hle⟩;have e:((H.erase id).push (.fz cs')).get id'=(H.erase id).get id':=AHeap.get_push_ne (H.erase id) h2 hid' _;rw [e]at hk';have hne:id≠id':=(by grind [AHeap.get_erase_same]);rw [AHeap.get_erase_ne H hne]at hk';refine (g1 id' k' hk').imp (λx hx=>hle.1.1 _ _ hx) (λh=>h) λb3 o3 hφ3 hown3 hb3=>?_;have hneb:b3≠b:=(by grind);exact ⟨by grind,hb3.mono hle (setRow_other w b b3 arr' hneb)⟩
  .grind
  simp [him x y v hi,g3 x y v hi]
 rw [cell_setRow_other w b arr' _ (him x y v hi)];exact h.imm x y v hi;intro i hi1 hi2;have hlt:H.next<i:=hi1;have hne:i≠H.next:=(by omega);simp only [Env.bind,if_neg hne];exact h.fresh i (zb' hlt) hi2
 .obtain ⟨arr2,t2,fr2,e1,e2⟩:=h.szs x n hn
  grind [setRow_other]
 exact ⟨(h.prot x hx).1,(setRow_other w b x arr' (hpr x hx)).trans (h.prot x hx).2⟩
theorem Rel.toF (h:Rel B pr E H w) {id:Nat} {cs:List AV} (hk:H.get id=some (.cells cs)):Rel B pr E (H.set id (.fz cs)) w:=by
 obtain ⟨own,g1,g2⟩:=h.own;refine { own:=⟨own,λid' k' hk'=>?_,g2⟩,imm:=h.imm,ib:=h.ib,fresh:=h.fresh,resv:=h.resv,vds:=h.vds,szs:=h.szs,prot:=h.prot,size:=h.size,os:=h.os,output:=h.output };by_cases e:id=id';subst e;rw [AHeap.get_set_same H (AHeap.get_lt hk)]at hk';cases hk';obtain ⟨_,hvoid⟩|⟨b,o,h1,h2,arr,t,h3,h4,h5,h6⟩:=g1 id _ hk;exact hvoid.elim;exact .inr ⟨b,o,h1,h2,arr,t,(0,0),h3,h4,h5,Nat.zero_le _,h6⟩
 grind [AHeap.get_set_ne,AHeap.get_lt]
theorem Rel.new_map (h:Rel B pr E H w) (hr:H.room=true):
  E.le (E.bind H.next w.heap.size 0)/\Rel B pr (E.bind H.next w.heap.size 0) (H.push (.map [] 0)) (w.alloc (.map #[] 0)):=by
 obtain ⟨h1,h2,h3⟩:=Rel.room hr;have hf:=h.fresh H.next (za' _) h1;have hle:E.le (E.bind H.next w.heap.size 0):=Env.le_bind hf;refine ⟨hle,?_⟩;refine { own:=?_,ib:=h.ib,imm:=λb o v hi=>fG_ (h.imm b o v hi),fresh:=?_,resv:=h.resv_bind h1,vds:=h.vds,szs:=?_,prot:=?_,size:=?_,os:=h.os,output:=h.output }
 .obtain ⟨own,g1,g2,g3⟩:=h.own;refine ⟨λb=>if b=w.heap.size then some H.next else own b,λid k hk=>?_,λb hb=>?_,λb o v hi=>?_⟩;by_cases hid:H.next=id;subst hid;rw [AHeap.get_push_same H h2]at hk;cases hk;exact .inr ⟨w.heap.size,0,by simp [Env.bind],by simp,rfl,#[],cw_,by simp [ConE]⟩;rw [AHeap.get_push_ne H h2 hid]at hk;refine (g1 id k hk).imp (λx hx=>hle.1.1 _ _ hx) (λh=>h) λb o hφ ho hb=>?_;have hlt:=hb.lt;have hne:b≠w.heap.size:=(by omega);exact ⟨by grind,hb.mono hle (aN_ hne)⟩
  .have:=(h.prot b hb).1;have hs:=h.size
   grind
  .have hcell:=h.imm b o v hi;have hne:b≠w.heap.size:=by
    grind [World.cell?]
   simp [hne,g3 b o v hi]
 intro id hid1 hid2;have hlt:H.next<id:=hid1;have hne:id≠H.next:=(by omega);simp only [Env.bind,if_neg hne];exact h.fresh id (zb' hlt) hid2
 .intro b n hn;obtain ⟨arr',t',fr',g1,g2⟩:=h.szs b n hn
  grind [aN_]
 .intro b hb;obtain ⟨g1,g2⟩:=h.prot b hb
  grind [aN_]
 have:=h.size;simp;omega
theorem Rel.set_map (h:Rel B pr E H w) {id:Nat} {es0:List (AV×AV×Nat)} {c0:Nat} (hk:H.get id=some (.map es0 c0)) {b o:Nat} (hφ:E.φ id=some (b,o))
  {es:List (AV×AV×Nat)} {c:Nat} {es':Array MapEntry} (hc:ConE E es es'.toList):
  Rel B pr E (H.set id (.map es c)) { w with heap:=w.heap.setIfInBounds b (.map es' c) }:=by
 obtain ⟨own,g1,g2,g3⟩:=h.own;obtain ⟨_,hvoid⟩|⟨b',o',hφ',hown,hb⟩:=g1 id _ hk;exact hvoid.elim;rw [hφ]at hφ';cases hφ';have hidlt:=AHeap.get_lt hk;obtain ⟨ho0,es1,hg,_⟩:=hb;have hblt:=getElem?_lt_of_some hg;have hother:∀j,j≠b->(w.heap.setIfInBounds b (.map es' c))[j]? =w.heap[j]? :=λj hj=>by
  grind
 have hsame:(w.heap.setIfInBounds b (.map es' c))[b]? =some (.map es' c):=by
  grind
 refine { own:=⟨own,λid' k' hk'=>?_,g2,g3⟩,ib:=h.ib,imm:=?_,fresh:=h.fresh,resv:=h.resv,vds:=h.vds,szs:=?_,prot:=?_,size:=by simpa using h.size,os:=h.os,output:=h.output }
 .by_cases hid:id=id';subst hid;rw [AHeap.get_set_same H hidlt]at hk';cases hk';exact .inr ⟨b,o,hφ,hown,ho0,es',hsame,hc⟩
  .rw [AHeap.get_set_ne H hidlt hid]at hk';refine (g1 id' k' hk').imp (λ_ h=>h) (λh=>h) λb2 o2 hφ2 hown2 hb2=>?_;have hne:b2≠b:=by
    grind
   exact ⟨hown2,hb2.mono (Env.le_refl _) (hother b2 hne)⟩
 .intro b2 o2 v hi;have:=h.imm b2 o2 v hi
  grind [World.cell?]
 .intro b2 n hn;obtain ⟨arr2,t2,fr2,e1,e2⟩:=h.szs b2 n hn
  grind
 intro b2 hb2;have hne:b2≠b:=(by grind);exact ⟨(h.prot b2 hb2).1,(hother b2 hne).trans (h.prot b2 hb2).2⟩
end
def aI_ (P:Program) {α:Type}:Sem α->Option α
 | .pure a=>some a
 | .program k=>aI_ P (k P)
 | .mark _ k=>aI_ P k
 |_=>none
theorem bv_ {P:Program} {α:Type}:∀{s:Sem α} {a:α},aI_ P s=some a->∀w,s.run P w=.ok a w
 | .pure a,b,h,w=>by simp_all [aI_]
 | .program k,b,h,w=>by simp only [aI_]at h;exact bv_ (s:=k P) h w
 | .mark m k,b,h,w=>by simp only [aI_]at h;exact bv_ (s:=k) h w
 | .load ..,b,h,w=>by simp [aI_]at h
 | .store ..,b,h,w=>by simp [aI_]at h
 | .new ..,b,h,w=>by simp [aI_]at h
 | .shape ..,b,h,w=>by simp [aI_]at h
 | .freeze ..,b,h,w=>by simp [aI_]at h
 | .frozen ..,b,h,w=>by simp [aI_]at h
 | .getObj ..,b,h,w=>by simp [aI_]at h
 | .setObj ..,b,h,w=>by simp [aI_]at h
 | .choose ..,b,h,w=>by simp [aI_]at h
 | .sys ..,b,h,w=>by simp [aI_]at h
 | .halt ..,b,h,w=>by simp [aI_]at h
def qb_:Value->AV
 | .bool b=>.bool b
 | .int k n=>.int k n
 | .float k n=>.flt k n
 | .string ⟨⟨s⟩⟩=>.str s
 | .pointer none=>.nptr
 | .slice none 0 0=>.nsl
 | .map none=>.nmap
 | .nilFunc=>.nfn
 | .nilIface=>.nif
 | .func (.func f) ⟨[]⟩ ⟨[]⟩=>.fn f []
 |_=>.opq
theorem f6_ (E:Env) (v:Value):Con E (qb_ v) v:=by
 unfold qb_
 grind [Con,ConL]
def qa_:List Value->List AV
 |[]=>[]
 |v::r=>qb_ v::qa_ r
theorem e4_ (E:Env):∀vs:List Value,ConL E (qa_ vs) vs
 |[]=>by simp [qa_,ConL]
 |v::r=>ConL.cons (f6_ E v) (e4_ E r)
def ofV:Value->AV
 | .agg ⟨cs⟩=>.agg (qa_ cs)
 | .tuple ⟨cs⟩=>.tup (qa_ cs)
 | .iface t v=>.iface t (qb_ v)
 |v=>qb_ v
theorem cK_ (E:Env) (v:Value):Con E (ofV v) v:=by unfold ofV;split;exact ⟨_,rfl,e4_ E _⟩;exact ⟨_,rfl,e4_ E _⟩;exact ⟨_,rfl,f6_ E _⟩;exact f6_ E _
def ar_ (z:Value):List AV:=match z with
 | .agg ⟨cs⟩=>qa_ cs
 |v=>[qb_ v]
theorem a9_ (E:Env) (z:Value):ConL E (ar_ z) z.cells.toList:=by
 unfold ar_;split;exact e4_ E _
 .rename_i h;cases z<;>first|exact ConL.cons (f6_ E _) (ConL.nil E)|exact absurd rfl (h _)
def i7_:AV->Option Value
 | .bool b=>some (.bool b)
 | .int k n=>some (.int k n)
 | .flt k n=>some (.float k n)
 | .str s=>some (.string ⟨⟨s⟩⟩)
 | .nptr=>some (.pointer none)
 | .nsl=>some (.slice none 0 0)
 | .nmap=>some (.map none)
 | .nfn=>some .nilFunc
 | .nif=>some .nilIface
 | .fn f []=>some (.func (.func f) #[] #[])
 |_=>none
theorem g7_ {E:Env} {a:AV} {u v:Value} (h:i7_ a=some u) (hc:Con E a v):v=u:=by
 unfold i7_ at h;split at h<;>first
  |(cases h;done)
  |(cases h;simpa only [Con]using hc)
  |(cases h;simp only [Con,ConL]at hc;obtain ⟨vs,rfl,rfl⟩:=hc;rfl)
def fl_:List AV->Option (List Value)
 |[]=>some []
 |a::r=>match i7_ a with
  |none=>none
  |some v=>match fl_ r with
   |none=>none
   |some vs=>some (v::vs)
theorem fQ_ {E:Env}:∀{as:List AV} {us vs:List Value},fl_ as=some us->ConL E as vs->vs=us
 |[],us,vs,h,hc=>by grind [fl_,ConL]
 |a::as,us,vs,h,hc=>by simp only [fl_]at h;simp only [ConL]at hc;obtain ⟨v,r,rfl,h2,h3⟩:=hc;split at h;cases h;rename_i v0 hv0;split at h;cases h;rename_i vs0 hvs0;cases h;rw [g7_ hv0 h2,fQ_ hvs0 h3]
def ck_:AV->Option Value
 | .agg cs=>match fl_ cs with
   |some l=>some (.agg ⟨l⟩)
   |none=>none
 | .tup cs=>match fl_ cs with
   |some l=>some (.tuple ⟨l⟩)
   |none=>none
 | .iface t a=>match i7_ a with
   |some v=>some (.iface t v)
   |none=>none
 |a=>i7_ a
theorem eP_ {E:Env} {a:AV} {u v:Value} (h:ck_ a=some u) (hc:Con E a v):v=u:=by
 cases a with
 |agg cs=>simp only [ck_]at h;split at h;rename_i l hl;cases h;obtain ⟨vs,rfl,h2⟩:=hc;rw [fQ_ hl h2];cases h
 |tup cs=>simp only [ck_]at h;split at h;rename_i l hl;cases h;obtain ⟨vs,rfl,h2⟩:=hc;rw [fQ_ hl h2];cases h
 |iface t a=>simp only [ck_]at h;split at h;rename_i l hl;cases h;obtain ⟨vs,rfl,h2⟩:=hc;rw [g7_ hl h2];cases h
 |_=>grind [g7_,ck_]
def Gives (P:Program) (B:World) (pr:Nat->Prop) (E:Env) (w:World) (s:Sem Value) (r:AV×AHeap):Prop:=
 ∃E' v' w',s.run P w=.ok v' w'/\E.le E'/\Rel B pr E' r.2 w'/\Con E' r.1 v'
section
variable {P:Program} {B:World} {pr:Nat->Prop} {E:Env} {H:AHeap} {w:World}
theorem Gives.still {s:Sem Value} {a:AV} {v:Value} (hr:Rel B pr E H w) (h:s.run P w=.ok v w) (hc:Con E a v):Gives P B pr E w s (a,H):=
 ⟨E,v,w,h,Env.le_refl _,hr,hc⟩
def aZ_:Nat->List AV->Option (List AV)
 |0,_=>some []
 |_+1,[]=>none
 |n+1,a::r=>match aZ_ n r with
  |some t=>some (a::t)
  |none=>none
theorem bN_:∀{n:Nat} {l r:List AV},aZ_ n l=some r->r=l.take n/\r.length=n
 |0,l,r,h=>by grind [aZ_]
 |n+1,[],r,h=>by simp [aZ_]at h
 |n+1,a::l,r,h=>by simp only [aZ_]at h;split at h;rename_i t ht;cases h;obtain ⟨h1,h2⟩:=bN_ ht;exact ⟨by rw [List.take_succ_cons,←h1],by simp [h2]⟩;cases h
def ai_:Nat->List AV->List AV
 |0,l=>l
 |_+1,[]=>[]
 |n+1,_::r=>ai_ n r
theorem aC_:∀(n:Nat) (l:List AV),ai_ n l=l.drop n
 |0,l=>rfl
 |n+1,[]=>rfl
 |n+1,a::r=>aC_ n r
def aT_ (H:AHeap) (a:AV) (n:Nat):Option (List AV):=match a with
 | .ptr id off=>match H.get id with
   |some (.cells cs)=>aZ_ n (ai_ off cs)
   |_=>none
 | .vptr cs=>aZ_ n cs
 |_=>none
theorem bu_ (hr:Rel B pr E H w) {a:AV} {v:Value} (hc:Con E a v) {n:Nat} {l:List AV} (h:aT_ H a n=some l):
  ∃b o vs,v=.pointer (some ⟨b,o,none⟩)/\vs.length=n/\ConL E l vs/\∀(j:Nat) (u:Value),vs[j]? =some u->w.cell? ⟨b,o+j,none⟩=some u:=by
 unfold aT_ at h;split at h
 .rename_i id off;split at h
  .rename_i cs hk;obtain ⟨h1,h2⟩:=bN_ h;rw [aC_]at h1;obtain ⟨b,o,hφ,rfl⟩:=hc;obtain ⟨arr,t,g1,g2,g3,g4⟩:=hr.blk hk hφ;refine ⟨b,o+off,(arr.toList.drop (o+off)).take n,rfl,?_,?_,?_⟩
   .grind
   .refine ConL.of_at ?_ λi x u hx hu=>?_
    .grind
    grind
   grind [World.cell?]
  cases h
 rename_i cs;obtain ⟨h1,h2⟩:=bN_ h;obtain ⟨b,o,vs,rfl,hL,hI⟩:=hc;refine ⟨b,o,vs.take n,rfl,?_,?_,?_⟩;have:n<=cs.length:=(by grind);simp [hL.length];omega;rw [h1];exact hL.take n;intro j u hu;simp only [List.getElem?_take]at hu;split at hu;exact hr.imm _ _ _ (hI j u hu);cases hu;cases h
theorem bC_ {b o:Nat} {vs:List Value} (h:∀(j:Nat) (u:Value),vs[j]? =some u->w.cell? ⟨b,o+j,none⟩=some u):
  (loadCells ⟨b,o,none⟩ vs.length).run P w=.ok ⟨vs⟩ w:=by
 grind [run_loadCells_list,Addr.add_lit]
def lN_ (d:TypeDesc):Bool:=match d with
 | .struct _| .array _ _=>true
 |_=>false
theorem bI_ {t:TypeId} {d:TypeDesc} (h:P.underlying t=some d):(isAgg t).run P w=.ok (lN_ d) w:=by unfold isAgg;simp only [Sem.run_bind,run_underlying h,Result.andThen_ok,lN_];split<;>simp_all
theorem af_ {t:TypeId} {i:TypeInfo} (h:P.info? t=some i):(sizeOf t).run P w=.ok i.size w:=by simp [sizeOf,typeInfo,h]
def bl_ (P:Program) (H:AHeap) (t:TypeId) (a:AV):Option AV:=match P.underlying t with
 |none=>none
 |some d=>match lN_ d with
  |true=>match P.info? t with
   |none=>none
   |some i=>match aT_ H a i.size with
    |some l=>some (.agg l)
    |none=>none
  |false=>match aT_ H a 1 with
   |some [c]=>some c
   |_=>none
theorem nJ_ (hr:Rel B pr E H w) {t:TypeId} {a:AV} {v:Value} (hc:Con E a v) {r:AV} (h:bl_ P H t a=some r):
  Gives P B pr E w (Instr.loadAt t v) (r,H):=by
 unfold bl_ at h;split at h;cases h;rename_i d hd;split at h
 .rename_i hag;split at h;cases h;rename_i i hi;split at h;rename_i l hl;cases h;obtain ⟨b,o,vs,rfl,hlen,hL,hcell⟩:=bu_ hr hc hl;refine Gives.still hr (v:=.agg ⟨vs⟩) ?_ (by simp only [Con];grind);have:=bC_ (P:=P) hcell;simp_all [Instr.loadAt,Instr.sureAddr,loadVar,bI_,af_]
  cases h
 .rename_i hag;split at h;rename_i c hl;cases h;obtain ⟨b,o,vs,rfl,hlen,hL,hcell⟩:=bu_ hr hc hl;obtain ⟨u,hu,hcu⟩:=hL.at 0 r rfl;refine Gives.still hr (v:=u) ?_ hcu;have:=hcell 0 u hu;simp_all [Instr.loadAt,Instr.sureAddr,loadVar,bI_]
  cases h
def bT_ (P:Program) (s:TypeId) (a:AV) (f:Nat):Option AV:=match P.underlying s with
 |some (.struct fields)=>match fields[f]? with
  |some fl=>match P.info? fl.type with
   |some i=>match i.size with
    |0=>none
    |_+1=>match a with
     | .ptr id off=>some (.ptr id (Nat.add off fl.offset))
     | .vptr cs=>match Nat.ble fl.offset cs.length with
       |true=>some (.vptr (ai_ fl.offset cs))
       |false=>none
     |_=>none
   |none=>none
  |none=>none
 |_=>none
theorem hr_ (hr:Rel B pr E H w) {s:TypeId} {a:AV} {v:Value} (hc:Con E a v) {f:Nat} {r:AV} (h:bT_ P s a f=some r):
  Gives P B pr E w (Instr.fieldAt s v f) (r,H):=by
 unfold bT_ at h;split at h
 .rename_i fields hd;split at h
  .rename_i fl hfl;split at h
   .rename_i i hi;split at h;cases h;rename_i n hn;split at h;rename_i id off;cases h;obtain ⟨b,o,hφ,rfl⟩:=hc;refine Gives.still hr (v:=.pointer (some ⟨b,o+(off+fl.offset),none⟩)) ?_ (by simp only [Con];grind);simp_all [Instr.fieldAt,run_underlying,Instr.sureAddr,fieldPlace,af_,Addr.add_lit]
    .split at h
     .cases h;obtain ⟨b,o,vs,rfl,hL,hI⟩:=hc;refine Gives.still hr (v:=.pointer (some ⟨b,o+fl.offset,none⟩)) ?_ ?_;simp_all [Instr.fieldAt,run_underlying,Instr.sureAddr,fieldPlace,af_,Addr.add_lit]
      .simp only [Con,aC_];refine ⟨b,o+fl.offset,vs.drop fl.offset,rfl,hL.drop _,λi u hu=>?_⟩;rw [List.getElem?_drop]at hu;have:=hI _ _ hu
       grind
     cases h
    cases h
   cases h
  cases h
 cases h
def idx (i:Int) (len:Nat):Option Nat:=match i with
 | .ofNat n=>match Nat.blt n len with
   |true=>some n
   |false=>none
 | .negSucc _=>none
theorem le_ {i:Int} {len n:Nat} (h:idx i len=some n):i=(n:Int)/\n<len:=by
 unfold idx at h;split at h
 .split at h<;>simp_all
 cases h
def aR_ (P:Program) (t:TypeId) (x ix:AV):Option AV:=match ix with
 | .int _ i=>match P.underlying t with
   |some (.slice e)=>match P.info? e with
    |some ti=>match x with
     | .sl id off len _ _=>match idx i len with
       |some n=>some (.ptr id (Nat.add off (Nat.mul n ti.size)))
       |none=>none
     | .vsl len _ cs=>match idx i len with
       |some n=>some (.vptr (ai_ (Nat.mul n ti.size) cs))
       |none=>none
     |_=>none
    |none=>none
   |some (.array len e)=>match P.info? e with
    |some ti=>match x with
     | .ptr id off=>match idx i len with
       |some n=>some (.ptr id (Nat.add off (Nat.mul n ti.size)))
       |none=>none
     | .vptr cs=>match idx i len with
       |some n=>some (.vptr (ai_ (Nat.mul n ti.size) cs))
       |none=>none
     |_=>none
    |none=>none
   |_=>none
 |_=>none
theorem cF_ (hr:Rel B pr E H w) {t:TypeId} {x ix:AV} {v iv:Value} (hc:Con E x v) (hi:Con E ix iv) {r:AV} (h:aR_ P t x ix=some r):
  Gives P B pr E w (Instr.indexAt t v iv) (r,H):=by
 unfold aR_ at h;split at h
 .rename_i k i;simp only [Con]at hi;subst hi;split at h
  .rename_i e hd;split at h
   .rename_i ti hti;split at h;rename_i id off len sz cap;split at h;rename_i n hn;cases h;obtain ⟨rfl,hlt⟩:=le_ hn;obtain ⟨b,o,m,c,off',hφ,hsz,rfl,hoff,hle,_⟩:=hc;obtain rfl:=hoff (by omega);refine Gives.still hr (v:=.pointer (some ⟨b,o+(off'+n*ti.size),none⟩)) ?_ (by simp only [Con];grind);have h0:(0:Int)<=(n:Int)/\(n:Int)<(len:Int):=(by omega);simp [Instr.indexAt,asIntOf,run_underlying hd,h0,hlt,af_ hti,Addr.add_lit,Nat.add_assoc];cases h
    .rename_i len sz cs;split at h
     .rename_i n hn;cases h;obtain ⟨rfl,hlt⟩:=le_ hn;obtain ⟨b,o,vs,c,rfl,hle,hL,hI⟩:=hc;refine Gives.still hr (v:=.pointer (some ⟨b,o+n*ti.size,none⟩)) ?_ ?_;have h0:(0:Int)<=(n:Int)/\(n:Int)<(len:Int):=(by omega);simp [Instr.indexAt,asIntOf,run_underlying hd,h0,hlt,af_ hti,Addr.add_lit]
      .simp only [Con,aC_];refine ⟨b,o+n*ti.size,vs.drop (n*ti.size),rfl,hL.drop _,λi u hu=>?_⟩;rw [List.getElem?_drop]at hu;have:=hI _ _ hu
       grind
     cases h
    cases h
   cases h
  .rename_i len e hd;split at h
   .rename_i ti hti;split at h;rename_i id off;split at h;rename_i n hn;cases h;obtain ⟨rfl,hlt⟩:=le_ hn;obtain ⟨b,o,hφ,rfl⟩:=hc;refine Gives.still hr (v:=.pointer (some ⟨b,o+(off+n*ti.size),none⟩)) ?_ (by simp only [Con];grind);have h0:(0:Int)<=(n:Int)/\(n:Int)<(len:Int):=(by omega);simp [Instr.indexAt,asIntOf,run_underlying hd,Instr.sureAddr,h0,hlt,af_ hti,Addr.add_lit,Nat.add_assoc];cases h
    .split at h
     .rename_i n hn;cases h;obtain ⟨rfl,hlt⟩:=le_ hn;obtain ⟨b,o,vs,rfl,hL,hI⟩:=hc;refine Gives.still hr (v:=.pointer (some ⟨b,o+n*ti.size,none⟩)) ?_ ?_;have h0:(0:Int)<=(n:Int)/\(n:Int)<(len:Int):=(by omega);simp [Instr.indexAt,asIntOf,run_underlying hd,Instr.sureAddr,h0,hlt,af_ hti,Addr.add_lit]
      .simp only [Con,aC_];refine ⟨b,o+n*ti.size,vs.drop (n*ti.size),rfl,hL.drop _,λi u hu=>?_⟩;rw [List.getElem?_drop]at hu;have:=hI _ _ hu
       grind
     cases h
    cases h
   cases h
  cases h
 cases h
def iy_ (P:Program) (t:TypeId) (cs:List AV) (off:Nat):Option AV:=match P.underlying t with
 |none=>none
 |some d=>match lN_ d with
  |true=>match P.info? t with
   |none=>none
   |some i=>match aZ_ i.size (ai_ off cs)with
    |some l=>some (.agg l)
    |none=>none
  |false=>match ai_ off cs with
   |c::_=>some c
   |[]=>none
theorem fK_ {t:TypeId} {cs:List AV} {vs:List Value} (hL:ConL E cs vs) {off:Nat} {r:AV} (h:iy_ P t cs off=some r):
  ∃u,(part t ⟨vs⟩ off).run P w=.ok u w/\Con E r u:=by
 unfold iy_ at h;split at h;cases h;rename_i d hd;split at h
 .rename_i hag;split at h;cases h;rename_i i hi;split at h
  .rename_i l hl;cases h;obtain ⟨h1,h2⟩:=bN_ hl;rw [aC_]at h1;refine ⟨.agg ⟨(vs.drop off).take i.size⟩,?_,?_⟩;simp_all [part,bI_,af_]
   exact ⟨_,rfl,by rw [h1];exact (hL.drop off).take _⟩
  cases h
 .rename_i hag;split at h
  .rename_i c r' hcs;cases h;rw [aC_]at hcs;have hx:cs[off]? =some r:=by
    have:(cs.drop off)[0]? =some r:=by rw [hcs];rfl
    grind
   obtain ⟨u,hu,hcu⟩:=hL.at off r hx;simp_all [part,bI_]
  cases h
def eB_ (P:Program) (s:TypeId) (a:AV) (f:Nat):Option AV:=match P.underlying s with
 |some (.struct fields)=>match fields[f]? with
  |some fl=>match a with
   | .agg cs=>iy_ P fl.type cs fl.offset
   |_=>none
  |none=>none
 |_=>none
theorem k5_ (hr:Rel B pr E H w) {s:TypeId} {a:AV} {v:Value} (hc:Con E a v) {f:Nat} {r:AV} (h:eB_ P s a f=some r):
  Gives P B pr E w (Instr.field s v f) (r,H):=by
 unfold eB_ at h;split at h
 .rename_i fields hd;split at h
  .rename_i fl hfl;split at h;obtain ⟨vs,rfl,hL⟩:=hc;obtain ⟨u,hu,hcu⟩:=fK_ (w:=w) hL h;simp_all [Gives.still,Instr.field,run_underlying,asAgg]
   cases h
  cases h
 cases h
def fb_ (a:AV) (i:Nat):Option AV:=match a with
 | .tup cs=>match ai_ i cs with
   |c::_=>some c
   |[]=>none
 |_=>none
theorem jH_ (hr:Rel B pr E H w) {a:AV} {v:Value} (hc:Con E a v) {i:Nat} {r:AV} (h:fb_ a i=some r):
  Gives P B pr E w (Instr.extract v i) (r,H):=by
 unfold fb_ at h;split at h
 .rename_i cs;split at h
  .rename_i c r' hcs;cases h;obtain ⟨vs,rfl,hL⟩:=hc;rw [aC_]at hcs;have hx:cs[i]? =some r:=by
    have:(cs.drop i)[0]? =some r:=by rw [hcs];rfl
    grind
   obtain ⟨u,hu,hcu⟩:=hL.at i r hx;simp_all [Gives.still,Instr.extract]
  cases h
 cases h
end
end Go.Sx
