/-
  The FD wrap with a further condition, the world's shape kept.
-/
import Derived.Handed
import Derived.SizedLaws
import Derived.ChangeSame
import Derived.WalkKit
import Derived.ProofKit
import Derived.Defers
import Derived.Recover
import Derived.Orders
set_option linter.all false
open Nat renaming le_refl→za',le_of_lt→zb',mod_lt→zc',le_trans→zd',lt_of_lt_of_le→ze'
namespace Go.Sx
def Ab:=@if_neg
def Ad:=@if_pos
def Az:=@List.length_append
def Bo:=@List.append_assoc
def AK:=@List.length_nil
def PK:=@List.mem_singleton
def CE:=@List.mem_cons
def AF:=@Nat.eq_of_beq_eq_true
def AY:=@decide_eq_false_iff_not
def AH:=@decide_eq_true_eq
def Cg:=@List.append_nil
def EE:=@List.length_singleton
def Cu:=@Nat.zero_add
def AU:=@of_decide_eq_true
def AD:=@decide_eq_true
def A4:=@decide_eq_false
def Bg:=@List.cons_append
def A6:=@Option.some.injEq
def C7:=@List.drop_eq_getElem_cons
def Ce:=@of_decide_eq_false
def B2:=@List.nil_append
def HX:=@List.getElem_mem
def HJ:=@List.length_map
def LH:=@List.length_take
def MD:=@List.length_drop
def DU:=@List.mem_append
variable {H:Type} {enc:TypeId×Value->H}
def post_own {P:Program} {f:Func} {s:ChangeSpec} {apart fresh handsOn again:Bool} {W W':World} {ag:Array Value} {v:Value} {ds gs:List (DataW H)} {before pa pv:List MemPlace}
  (hW:DataW.Whole enc P f.params.toList s.vars apart W ag.toList ds gs before)
  (hres:∀(b:Nat) (sp:Nat->Bool) (hd:Bool),DataW.TrodAll enc P W' b sp hd f.resultTypes.toList (v.resultList f.resultTypes.size) (s.fn H (ds++gs)).results [])
  (hargs:∀sp:Nat->Bool,(∀p∈before,sp p.block=true)->DataW.TrodAll enc P W' 0 sp true f.params.toList ag.toList (s.fn H (ds++gs)).args pa)
  (hvars:∀sp:Nat->Bool,(∀p∈before,sp p.block=true)->DataW.TrodVars enc P W' sp s.vars (s.fn H (ds++gs)).vars pv)
  (hps:before=pa++pv) (hk:W.keptBut W' (· ∈before)) (hfz:∀a,a.block<W.heap.size->W'.frozen? a=W.frozen? a)
  (hok:∀(j:Nat) (t:TypeId) (r:Value),f.resultTypes[j]? =some t->(v.resultList f.resultTypes.size)[j]? =some r->Value.okWide P W' .any 0 t r):
  s.post enc P f apart fresh handsOn again W ag v W':=by
 have hlt:∀p∈pa++pv,p.block<W.heap.size:=λp hp=>hW.lt p (by grind);have hsp:∀p∈before,(λb=>decide (b<W.heap.size)) p.block=true:=λp hp=>AD (hW.lt p hp);refine ⟨ds,gs,before,[],pa,pv,hW,hres _ _ _,hargs _ hsp,hvars _ hsp,World.keptBut_mono (λp hp=>⟨hp,Or.inr ?_⟩) hk,λ_=>⟨hok,_,_,([]++pa)++pv,⟨[]++pa,pv,ChangeShapes.trodAll_append (hargs _ (λ_ _=>rfl)) (hres _ _ _),hvars _ (λ_ _=>rfl),rfl,λb off hp=>?_,λha=>?_⟩,λp hp _=>?_⟩⟩
 .grind
 obtain ⟨_,_,_,_,_,hz,_⟩:=hW;rw [hfz _ (hlt _ hp)];exact hz b off (by grind)
 .obtain ⟨_,_,_,_,_,_,hn⟩:=hW
  grind
 grind
end Go.Sx
namespace Go.Sx
inductive AV where
 |opq
 |bool (b:Bool)
 |int (k:IntKind) (n:Int)
 |flt (k:FloatKind) (n:Nat)
 |nan (k:FloatKind)
 |str (s:List UInt8)
 |nptr
 |ptr (id off:Nat)
 |vptr (cs:List AV)
 |nsl
 |sl (id off len sz:Nat) (cap:Option Nat)
 |vsl (len sz:Nat) (cs:List AV)
 |nmap
 |map (id:Nat)
 |nfn
 |fn (f:FuncId) (cap:List AV)
 |nif
 |iface (t:TypeId) (v:AV)
 |agg (cs:List AV)
 |tup (cs:List AV)
 |sym (i:Nat)
 |slx (id sz i:Nat)
 |ptx (id j sz off:Nat)
 deriving Inhabited
inductive A2 where
 |cells (cs:List AV)
 |map (es:List (AV×AV×Nat)) (clock:Nat)
 |syl (i:Nat)
 |fz (cs:List AV)
 |mpl (i:Nat)
 deriving Inhabited
structure Q8 (α:Type) where
 (a b c d e f g h:α)
namespace Q8
variable {α:Type}
inductive AtC (α:Type) where
 |mk (f:Q8 α->α)
def atc (α:Type) (i:Nat):AtC α:=match i with
 |0=>.mk λq=>Q8.casesOn q λa b c d e f g h=>a
 |1=>.mk λq=>Q8.casesOn q λa b c d e f g h=>b
 |2=>.mk λq=>Q8.casesOn q λa b c d e f g h=>c
 |3=>.mk λq=>Q8.casesOn q λa b c d e f g h=>d
 |4=>.mk λq=>Q8.casesOn q λa b c d e f g h=>e
 |5=>.mk λq=>Q8.casesOn q λa b c d e f g h=>f
 |6=>.mk λq=>Q8.casesOn q λa b c d e f g h=>g
 |_=>.mk λq=>Q8.casesOn q λa b c d e f g h=>h
inductive UpC (α:Type) where
 |mk (f:Q8 α->(α->α)->Q8 α)
def upc (α:Type) (i:Nat):UpC α:=match i with
 |0=>.mk λq u=>Q8.casesOn q λa b c d e f g h=>⟨u a,b,c,d,e,f,g,h⟩
 |1=>.mk λq u=>Q8.casesOn q λa b c d e f g h=>⟨a,u b,c,d,e,f,g,h⟩
 |2=>.mk λq u=>Q8.casesOn q λa b c d e f g h=>⟨a,b,u c,d,e,f,g,h⟩
 |3=>.mk λq u=>Q8.casesOn q λa b c d e f g h=>⟨a,b,c,u d,e,f,g,h⟩
 |4=>.mk λq u=>Q8.casesOn q λa b c d e f g h=>⟨a,b,c,d,u e,f,g,h⟩
 |5=>.mk λq u=>Q8.casesOn q λa b c d e f g h=>⟨a,b,c,d,e,u f,g,h⟩
 |6=>.mk λq u=>Q8.casesOn q λa b c d e f g h=>⟨a,b,c,d,e,f,u g,h⟩
 |_=>.mk λq u=>Q8.casesOn q λa b c d e f g h=>⟨a,b,c,d,e,f,g,u h⟩
def at8 (i:Nat) (q:Q8 α):α:=match atc α i with
 | .mk f=>f q
def up8 (i:Nat) (q:Q8 α) (u:α->α):Q8 α:=match upc α i with
 | .mk f=>f q u
def all (x:α):Q8 α:=⟨x,x,x,x,x,x,x,x⟩
def small {i:Nat} (h:i<8):i=0\/i=1\/i=2\/i=3\/i=4\/i=5\/i=6\/i=7:=by omega
theorem at_up_same (q:Q8 α) {i:Nat} (h:i<8) (u:α->α):at8 i (up8 i q u)=u (at8 i q):=by rcases small h with rfl|rfl|rfl|rfl|rfl|rfl|rfl|rfl<;>rfl
theorem at_up_ne (q:Q8 α) {i j:Nat} (h:i<8) (h':j<8) (hne:i≠j) (u:α->α):at8 j (up8 i q u)=at8 j q:=by rcases small h with rfl|rfl|rfl|rfl|rfl|rfl|rfl|rfl<;>rcases small h' with rfl|rfl|rfl|rfl|rfl|rfl|rfl|rfl<;>first|(exact absurd rfl hne)|rfl
theorem at_all (x:α) (i:Nat):at8 i (all x)=x:=by
 unfold at8 atc all;repeat' split
 grind
end Q8
abbrev HT:=Q8 (Q8 (Q8 (Q8 (Q8 (Option A2)))))
def Bb:Nat:=32768
def BU (t:HT) (k:Nat):Option A2:=
 Q8.at8 (Nat.mod k 8) (Q8.at8 (Nat.mod (Nat.div k 8) 8) (Q8.at8 (Nat.mod (Nat.div k 64) 8) (Q8.at8 (Nat.mod (Nat.div k 512) 8) (Q8.at8 (Nat.div k 4096) t))))
def Db (t:HT) (k:Nat) (x:Option A2):HT:=
 Q8.up8 (Nat.div k 4096) t λt=>Q8.up8 (Nat.mod (Nat.div k 512) 8) t λt=>Q8.up8 (Nat.mod (Nat.div k 64) 8) t λt=>Q8.up8 (Nat.mod (Nat.div k 8) 8) t λt=>Q8.up8 (Nat.mod k 8) t λ_=>x
def AE:HT:=Q8.all (Q8.all (Q8.all (Q8.all (Q8.all none))))
theorem He (k n:Nat):Nat.mod (Nat.div k n) 8<8:=zc' _ (by omega)
theorem PN (k:Nat):Nat.mod k 8<8:=zc' _ (by omega)
def W9 (t:HT) {k:Nat} (h:k<Bb) (x:Option A2):BU (Db t k x) k=x:=by
 have h4:Nat.div k 4096<8:=by show k/4096<8;grind [Bb]
 grind [BU,Db,Q8.at_up_same,He,PN]
def YK (t:HT) {k j:Nat} (h:k<Bb) (h':j<Bb) (hne:k≠j) (x:Option A2):BU (Db t k x) j=BU t j:=by
 have h4:Nat.div k 4096<8:=by show k/4096<8;unfold Bb at h;omega
 have h4':Nat.div j 4096<8:=by show j/4096<8;unfold Bb at h';omega
 unfold BU Db;by_cases e4:Nat.div k 4096=Nat.div j 4096;rw [←e4,Q8.at_up_same _ h4];by_cases e3:Nat.mod (Nat.div k 512) 8=Nat.mod (Nat.div j 512) 8;rw [←e3,Q8.at_up_same _ (He _ _)];by_cases e2:Nat.mod (Nat.div k 64) 8=Nat.mod (Nat.div j 64) 8;rw [←e2,Q8.at_up_same _ (He _ _)];by_cases e1:Nat.mod (Nat.div k 8) 8=Nat.mod (Nat.div j 8) 8;rw [←e1,Q8.at_up_same _ (He _ _)];by_cases e0:Nat.mod k 8=Nat.mod j 8;exfalso;have e4:k/4096=j/4096:=e4;have e3:k/512%8=j/512%8:=e3;have e2:k/64%8=j/64%8:=e2;have e1:k/8%8=j/8%8:=e1;have e0:k%8=j%8:=e0;omega;rw [Q8.at_up_ne _ (PN _) (PN _) e0];rw [Q8.at_up_ne _ (He _ _) (He _ _) e1];rw [Q8.at_up_ne _ (He _ _) (He _ _) e2];rw [Q8.at_up_ne _ (He _ _) (He _ _) e3];rw [Q8.at_up_ne _ h4 h4' e4]
theorem OZ (k:Nat):BU AE k=none:=by unfold BU AE;rw [Q8.at_all,Q8.at_all,Q8.at_all,Q8.at_all,Q8.at_all]
structure AHeap where
 tr:HT
 next:Nat
 hi:Nat
namespace AHeap
def get (H:AHeap) (id:Nat):Option A2:=match Nat.blt id Bb with
 |true=>BU H.tr id
 |false=>none
def set (H:AHeap) (id:Nat) (b:A2):AHeap:=⟨Db H.tr id (some b),H.next,H.hi⟩
def erase (H:AHeap) (id:Nat):AHeap:=⟨match Nat.blt id Bb with
 |true=>Db H.tr id none
 |false=>H.tr,H.next,H.hi⟩
def push (H:AHeap) (b:A2):AHeap:=⟨Db H.tr H.next (some b),Nat.succ H.next,H.hi⟩
def room (H:AHeap):Bool:=Nat.blt H.next H.hi&&Nat.ble H.hi Bb
theorem get_lt {H:AHeap} {id:Nat} {b:A2} (h:H.get id=some b):id<Bb:=by
 unfold get at h;cases hb:Nat.blt id Bb with
 |true=>simpa [Nat.blt_eq]using hb
 |false=>simp [hb]at h
theorem get_of_lt {H:AHeap} {id:Nat} (h:id<Bb):H.get id=BU H.tr id:=by
 unfold get;have:Nat.blt id Bb=true:=by simpa [Nat.blt_eq]using h
 rw [this]
theorem jN {id:Nat} (h:¬id<Bb):Nat.blt id Bb=false:=by
 cases hb:Nat.blt id Bb with
 |true=>exact absurd (by simpa [Nat.blt_eq]using hb) h
 |false=>rfl
theorem get_of_ge {H:AHeap} {id:Nat} (h:¬id<Bb):H.get id=none:=by unfold get;rw [jN h]
theorem get_set_same (H:AHeap) {id:Nat} (h:id<Bb) (b:A2):(H.set id b).get id=some b:=by rw [get_of_lt h];exact W9 _ h _
theorem get_set_ne (H:AHeap) {id j:Nat} (h:id<Bb) (hne:id≠j) (b:A2):(H.set id b).get j=H.get j:=by by_cases hj:j<Bb;rw [get_of_lt hj,get_of_lt hj];exact YK _ h hj hne _;rw [get_of_ge hj,get_of_ge hj]
theorem get_erase_same (H:AHeap) {id:Nat}:(H.erase id).get id=none:=by by_cases h:id<Bb;have hb:Nat.blt id Bb=true:=(by simpa [Nat.blt_eq]using h);rw [get_of_lt h];unfold erase;simp only [hb];exact W9 _ h _;rw [get_of_ge h]
theorem get_erase_ne (H:AHeap) {id j:Nat} (hne:id≠j):(H.erase id).get j=H.get j:=by by_cases h:id<Bb;have hb:Nat.blt id Bb=true:=(by simpa [Nat.blt_eq]using h);by_cases hj:j<Bb;rw [get_of_lt hj,get_of_lt hj];unfold erase;simp only [hb];exact YK _ h hj hne _;rw [get_of_ge hj,get_of_ge hj];unfold erase;simp only [jN h]
theorem get_push_same (H:AHeap) (h:H.next<Bb) (b:A2):(H.push b).get H.next=some b:=by rw [get_of_lt h];exact W9 _ h _
theorem get_push_ne (H:AHeap) (h:H.next<Bb) {j:Nat} (hne:H.next≠j) (b:A2):(H.push b).get j=H.get j:=by by_cases hj:j<Bb;rw [get_of_lt hj,get_of_lt hj];exact YK _ h hj hne _;rw [get_of_ge hj,get_of_ge hj]
end AHeap
structure Ag where
 φ:Nat->Option (Nat×Nat)
 sz:Nat->Option Nat
 imm:Nat->Nat->Option Value
 res:Nat->Prop
 bim:Nat->Nat->Option Value
 sy:Nat->Option AV
 syl:Nat->Option (List AV)
 vd:Nat->Prop
def Ag.sub (E E':Ag):Prop:=
 (∀i x,E.φ i=some x->E'.φ i=some x)/\(∀b n,E.sz b=some n->E'.sz b=some n)/\(∀b o v,E.imm b o=some v->E'.imm b o=some v)/\E'.sy=E.sy/\E'.syl=E.syl
def Ag.le (E E':Ag):Prop:=E.sub E'/\E'.res=E.res/\E'.bim=E.bim/\E'.vd=E.vd
def Ag.sub_refl (E:Ag):E.sub E:=⟨λ_ _ h=>h,λ_ _ h=>h,λ_ _ _ h=>h,rfl,rfl⟩
def Ag.sub_trans {E E' E'':Ag} (h:E.sub E') (h':E'.sub E''):E.sub E'':=
 ⟨λi x hx=>h'.1 _ _ (h.1 i x hx),λb n hx=>h'.2.1 _ _ (h.2.1 b n hx),λb o v hx=>h'.2.2.1 _ _ _ (h.2.2.1 b o v hx),h'.2.2.2.1.trans h.2.2.2.1,h'.2.2.2.2.trans h.2.2.2.2⟩
theorem Ag.le_refl (E:Ag):E.le E:=⟨E.sub_refl,rfl,rfl,rfl⟩
def Ag.le_trans {E E' E'':Ag} (h:E.le E') (h':E'.le E''):E.le E'':=⟨Ag.sub_trans h.1 h'.1,h'.2.1.trans h.2.1,h'.2.2.1.trans h.2.2.1,h'.2.2.2.trans h.2.2.2⟩
def B1 (E:Ag) (b o:Nat) (vs:List Value):Prop:=∀(i:Nat) (v:Value),vs[i]? =some v->E.imm b (o+i)=some v
def B1.sub {E E':Ag} (h:E.sub E') {b o:Nat} {vs:List Value} (hi:B1 E b o vs):B1 E' b o vs:=
 λi v hv=>h.2.2.1 _ _ _ (hi i v hv)
def AV.one:AV->Bool
 | .agg _| .tup _| .opq=>false
 |_=>true
mutual
def Aj (E:Ag):AV->Value->Prop
 | .opq,_=>False
 | .bool b,v=>v=.bool b
 | .int k n,v=>v=.int k n
 | .flt k n,v=>v=.float k n
 | .nan k,v=>∃b,v=.float k b/\(k.format.read b).isNaN=true
 | .str s,v=>v=.string ⟨⟨s⟩⟩
 | .nptr,v=>v=.pointer none
 | .ptr _ _,_=>False
 | .vptr cs,v=>∃b o vs,v=.pointer (some ⟨b,o,none⟩)/\AB E cs vs/\B1 E b o vs
 | .nsl,v=>v=.slice none 0 0
 | .sl _ _ _ _ _,_=>False
 | .vsl len _ cs,v=>∃b o vs c,v=.slice (some ⟨b,o,none⟩) len c/\len<=c/\AB E cs vs/\B1 E b o vs
 | .nmap,v=>v=.map none
 | .map _,_=>False
 | .nfn,v=>v=.nilFunc
 | .fn f cap,v=>∃vs,v=.func (.func f) #[] ⟨vs⟩/\AB E cap vs
 | .nif,v=>v=.nilIface
 | .iface t a,v=>∃u,v=.iface t u/\Aj E a u
 | .agg cs,v=>∃vs,v=.agg ⟨vs⟩/\AB E cs vs
 | .tup cs,v=>∃vs,v=.tuple ⟨vs⟩/\AB E cs vs
 | .sym _,_=>False
 | .slx _ _ _,_=>False
 | .ptx _ _ _ _,_=>False
def AB (E:Ag):List AV->List Value->Prop
 |[],vs=>vs=[]
 |a::as,vs=>∃v r,vs=v::r/\Aj E a v/\AB E as r
end
mutual
def Ac (E:Ag):AV->Value->Prop
 | .opq,_=>True
 | .bool b,v=>v=.bool b
 | .int k n,v=>v=.int k n
 | .flt k n,v=>v=.float k n
 | .nan k,v=>∃b,v=.float k b/\(k.format.read b).isNaN=true
 | .str s,v=>v=.string ⟨⟨s⟩⟩
 | .nptr,v=>v=.pointer none
 | .ptr id off,v=>∃b o,E.φ id=some (b,o)/\v=.pointer (some ⟨b,o+off,none⟩)
 | .vptr cs,v=>∃b o vs,v=.pointer (some ⟨b,o,none⟩)/\Ah E cs vs/\B1 E b o vs
 | .nsl,v=>v=.slice none 0 0
 | .sl id off len sz cap,v=>∃b o n c off',E.φ id=some (b,o)/\E.sz b=some n/\v=.slice (some ⟨b,o+off',none⟩) len c/\(c≠0->off'=off)/\
    len<=c/\o+off+c*sz<=n/\∀k,cap=some k->c=k
 | .vsl len _ cs,v=>∃b o vs c,v=.slice (some ⟨b,o,none⟩) len c/\len<=c/\Ah E cs vs/\B1 E b o vs
 | .nmap,v=>v=.map none
 | .map id,v=>∃b,E.φ id=some (b,0)/\v=.map (some b)
 | .nfn,v=>v=.nilFunc
 | .fn f cap,v=>∃vs,v=.func (.func f) #[] ⟨vs⟩/\Ah E cap vs
 | .nif,v=>v=.nilIface
 | .iface t a,v=>∃u,v=.iface t u/\Ac E a u
 | .agg cs,v=>∃vs,v=.agg ⟨vs⟩/\Ah E cs vs
 | .tup cs,v=>∃vs,v=.tuple ⟨vs⟩/\Ah E cs vs
 | .sym i,v=>∃a,E.sy i=some a/\a.one=true/\Aj E a v
 | .slx id sz i,v=>∃a,E.sy i=some a/\((a=.nsl/\v=.slice none 0 0)\/∃len cs,a=.vsl len sz cs/\∃b o n c off',E.φ id=some (b,o)/\E.sz b=some n/\v=.slice (some ⟨b,o+off',none⟩) len c/\(c≠0->off'=0)/\
    len<=c/\o+c*sz<=n)
 | .ptx id j sz off,v=>∃k n,E.sy j=some (.int k (.ofNat n))/\∃b o,E.φ id=some (b,o)/\v=.pointer (some ⟨b,o+(n*sz+off),none⟩)
def Ah (E:Ag):List AV->List Value->Prop
 |[],vs=>vs=[]
 |a::as,vs=>∃v r,vs=v::r/\Ac E a v/\Ah E as r
end
mutual
theorem Aj.sub {E E':Ag} (h:E.sub E'):∀{a:AV} {v:Value},Aj E a v->Aj E' a v
 | .opq,_,hc=>by simp [Aj]at hc
 | .bool _,_,hc=>by simpa [Aj]using hc
 | .int _ _,_,hc=>by simpa [Aj]using hc
 | .flt _ _,_,hc=>by simpa [Aj]using hc
 | .nan _,_,hc=>by simpa [Aj]using hc
 | .str _,_,hc=>by simpa [Aj]using hc
 | .nptr,_,hc=>by simpa [Aj]using hc
 | .ptr id off,v,hc=>by simp [Aj]at hc
 | .vptr cs,v,hc=>by simp only [Aj]at hc⊢;obtain ⟨b,o,vs,h1,h2,h3⟩:=hc;exact ⟨b,o,vs,h1,AB.sub h h2,h3.sub h⟩
 | .nsl,_,hc=>by simpa [Aj]using hc
 | .sl ..,v,hc=>by simp [Aj]at hc
 | .vsl ..,v,hc=>by simp only [Aj]at hc⊢;obtain ⟨b,o,vs,c,h1,h2,h3,h4⟩:=hc;exact ⟨b,o,vs,c,h1,h2,AB.sub h h3,h4.sub h⟩
 | .nmap,_,hc=>by simpa [Aj]using hc
 | .map id,v,hc=>by simp [Aj]at hc
 | .nfn,_,hc=>by simpa [Aj]using hc
 | .fn f cap,v,hc=>by simp only [Aj]at hc⊢;obtain ⟨vs,h1,h2⟩:=hc;exact ⟨vs,h1,AB.sub h h2⟩
 | .nif,_,hc=>by simpa [Aj]using hc
 | .iface t a,v,hc=>by simp only [Aj]at hc⊢;obtain ⟨u,h1,h2⟩:=hc;exact ⟨u,h1,Aj.sub h h2⟩
 | .agg cs,v,hc=>by simp only [Aj]at hc⊢;obtain ⟨vs,h1,h2⟩:=hc;exact ⟨vs,h1,AB.sub h h2⟩
 | .tup cs,v,hc=>by simp only [Aj]at hc⊢;obtain ⟨vs,h1,h2⟩:=hc;exact ⟨vs,h1,AB.sub h h2⟩
 | .sym _,_,hc=>by simp [Aj]at hc
 | .slx ..,_,hc=>by simp [Aj]at hc
 | .ptx ..,_,hc=>by simp [Aj]at hc
theorem AB.sub {E E':Ag} (h:E.sub E'):∀{as:List AV} {vs:List Value},AB E as vs->AB E' as vs
 |[],_,hc=>by simpa [AB]using hc
 |a::as,vs,hc=>by simp only [AB]at hc⊢;obtain ⟨v,r,h1,h2,h3⟩:=hc;exact ⟨v,r,h1,Aj.sub h h2,AB.sub h h3⟩
end
mutual
theorem Aj.con {E:Ag}:∀{a:AV} {v:Value},Aj E a v->Ac E a v
 | .opq,_,hc=>by simp [Aj]at hc
 | .bool _,_,hc=>by simpa [Aj,Ac]using hc
 | .int _ _,_,hc=>by simpa [Aj,Ac]using hc
 | .flt _ _,_,hc=>by simpa [Aj,Ac]using hc
 | .nan _,_,hc=>by simpa [Aj,Ac]using hc
 | .str _,_,hc=>by simpa [Aj,Ac]using hc
 | .nptr,_,hc=>by simpa [Aj,Ac]using hc
 | .ptr id off,v,hc=>by simp [Aj]at hc
 | .vptr cs,v,hc=>by simp only [Aj]at hc;simp only [Ac];obtain ⟨b,o,vs,h1,h2,h3⟩:=hc;exact ⟨b,o,vs,h1,AB.con h2,h3⟩
 | .nsl,_,hc=>by simpa [Aj,Ac]using hc
 | .sl ..,v,hc=>by simp [Aj]at hc
 | .vsl ..,v,hc=>by simp only [Aj]at hc;simp only [Ac];obtain ⟨b,o,vs,c,h1,h2,h3,h4⟩:=hc;exact ⟨b,o,vs,c,h1,h2,AB.con h3,h4⟩
 | .nmap,_,hc=>by simpa [Aj,Ac]using hc
 | .map id,v,hc=>by simp [Aj]at hc
 | .nfn,_,hc=>by simpa [Aj,Ac]using hc
 | .fn f cap,v,hc=>by simp only [Aj]at hc;simp only [Ac];obtain ⟨vs,h1,h2⟩:=hc;exact ⟨vs,h1,AB.con h2⟩
 | .nif,_,hc=>by simpa [Aj,Ac]using hc
 | .iface t a,v,hc=>by simp only [Aj]at hc;simp only [Ac];obtain ⟨u,h1,h2⟩:=hc;exact ⟨u,h1,Aj.con h2⟩
 | .agg cs,v,hc=>by simp only [Aj]at hc;simp only [Ac];obtain ⟨vs,h1,h2⟩:=hc;exact ⟨vs,h1,AB.con h2⟩
 | .tup cs,v,hc=>by simp only [Aj]at hc;simp only [Ac];obtain ⟨vs,h1,h2⟩:=hc;exact ⟨vs,h1,AB.con h2⟩
 | .sym _,_,hc=>by simp [Aj]at hc
 | .slx ..,_,hc=>by simp [Aj]at hc
 | .ptx ..,_,hc=>by simp [Aj]at hc
theorem AB.con {E:Ag}:∀{as:List AV} {vs:List Value},AB E as vs->Ah E as vs
 |[],_,hc=>by simpa [AB,Ah]using hc
 |a::as,vs,hc=>by simp only [AB]at hc;simp only [Ah];obtain ⟨v,r,h1,h2,h3⟩:=hc;exact ⟨v,r,h1,Aj.con h2,AB.con h3⟩
end
mutual
theorem Ac.sub {E E':Ag} (h:E.sub E'):∀{a:AV} {v:Value},Ac E a v->Ac E' a v
 | .opq,_,_=>by simp [Ac]
 | .bool _,_,hc=>by simpa [Ac]using hc
 | .int _ _,_,hc=>by simpa [Ac]using hc
 | .flt _ _,_,hc=>by simpa [Ac]using hc
 | .nan _,_,hc=>by simpa [Ac]using hc
 | .str _,_,hc=>by simpa [Ac]using hc
 | .nptr,_,hc=>by simpa [Ac]using hc
 | .ptr id off,v,hc=>by simp only [Ac]at hc⊢;obtain ⟨b,o,h1,h2⟩:=hc;exact ⟨b,o,h.1 _ _ h1,h2⟩
 | .vptr cs,v,hc=>by simp only [Ac]at hc⊢;obtain ⟨b,o,vs,h1,h2,h3⟩:=hc;exact ⟨b,o,vs,h1,Ah.sub h h2,h3.sub h⟩
 | .nsl,_,hc=>by simpa [Ac]using hc
 | .sl ..,v,hc=>by simp only [Ac]at hc⊢;obtain ⟨b,o,n,c,off',h1,h2,h3⟩:=hc;exact ⟨b,o,n,c,off',h.1 _ _ h1,h.2.1 _ _ h2,h3⟩
 | .vsl ..,v,hc=>by simp only [Ac]at hc⊢;obtain ⟨b,o,vs,c,h1,h2,h3,h4⟩:=hc;exact ⟨b,o,vs,c,h1,h2,Ah.sub h h3,h4.sub h⟩
 | .nmap,_,hc=>by simpa [Ac]using hc
 | .map id,v,hc=>by simp only [Ac]at hc⊢;obtain ⟨b,h1,h2⟩:=hc;exact ⟨b,h.1 _ _ h1,h2⟩
 | .nfn,_,hc=>by simpa [Ac]using hc
 | .fn f cap,v,hc=>by simp only [Ac]at hc⊢;obtain ⟨vs,h1,h2⟩:=hc;exact ⟨vs,h1,Ah.sub h h2⟩
 | .nif,_,hc=>by simpa [Ac]using hc
 | .iface t a,v,hc=>by simp only [Ac]at hc⊢;obtain ⟨u,h1,h2⟩:=hc;exact ⟨u,h1,Ac.sub h h2⟩
 | .agg cs,v,hc=>by simp only [Ac]at hc⊢;obtain ⟨vs,h1,h2⟩:=hc;exact ⟨vs,h1,Ah.sub h h2⟩
 | .tup cs,v,hc=>by simp only [Ac]at hc⊢;obtain ⟨vs,h1,h2⟩:=hc;exact ⟨vs,h1,Ah.sub h h2⟩
 | .sym i,v,hc=>by simp only [Ac]at hc⊢;obtain ⟨a,h1,h2,h3⟩:=hc;exact ⟨a,by rw [h.2.2.2.1];exact h1,h2,Aj.sub h h3⟩
 | .slx id sz i,v,hc=>by simp only [Ac]at hc⊢;obtain ⟨a,h0,hc⟩:=hc;refine ⟨a,by rw [h.2.2.2.1];exact h0,hc.imp_right λ⟨len,cs,e,b,o,n,c,off',h1,h2,h3⟩=>⟨len,cs,e,b,o,n,c,off',h.1 _ _ h1,h.2.1 _ _ h2,h3⟩⟩
 | .ptx id j sz off,v,hc=>by simp only [Ac]at hc⊢;obtain ⟨k,n,h0,b,o,h1,h2⟩:=hc;exact ⟨k,n,by rw [h.2.2.2.1];exact h0,b,o,h.1 _ _ h1,h2⟩
theorem Ah.sub {E E':Ag} (h:E.sub E'):∀{as:List AV} {vs:List Value},Ah E as vs->Ah E' as vs
 |[],_,hc=>by simpa [Ah]using hc
 |a::as,vs,hc=>by simp only [Ah]at hc⊢;obtain ⟨v,r,h1,h2,h3⟩:=hc;exact ⟨v,r,h1,Ac.sub h h2,Ah.sub h h3⟩
end
theorem Ac.mono {E E':Ag} (h:E.le E') {a:AV} {v:Value} (hc:Ac E a v):Ac E' a v:=Ac.sub h.1 hc
theorem Ah.mono {E E':Ag} (h:E.le E') {as:List AV} {vs:List Value} (hc:Ah E as vs):Ah E' as vs:=Ah.sub h.1 hc
theorem B1.mono {E E':Ag} (h:E.le E') {b o:Nat} {vs:List Value} (hi:B1 E b o vs):B1 E' b o vs:=B1.sub h.1 hi
theorem Ah.length {E:Ag}:∀{as:List AV} {vs:List Value},Ah E as vs->vs.length=as.length
 |[],_,h=>by simp only [Ah]at h;subst h;rfl
 |a::as,vs,h=>by simp only [Ah]at h;obtain ⟨v,r,rfl,_,h3⟩:=h;simp [h3.length]
def Ah.at {E:Ag}:∀{as:List AV} {vs:List Value},Ah E as vs->∀(i:Nat) (a:AV),as[i]? =some a->∃v,vs[i]? =some v/\Ac E a v
 |[],_,_,i,a,hi=>by simp at hi
 |a::as,vs,h,i,x,hi=>by
  simp only [Ah]at h;obtain ⟨v,r,rfl,h2,h3⟩:=h;cases i with
  |zero=>simp at hi;subst hi;exact ⟨v,rfl,h2⟩
  |succ i=>simpa using h3.at i x (by simpa using hi)
theorem Ah.of_at {E:Ag}:∀{as:List AV} {vs:List Value},vs.length=as.length->(∀(i:Nat) (a:AV) (v:Value),as[i]? =some a->vs[i]? =some v->Ac E a v)->Ah E as vs
 |[],vs,hl,_=>by simp only [Ah];exact List.eq_nil_of_length_eq_zero (by simpa using hl)
 |a::as,vs,hl,h=>by
  cases vs with
  |nil=>simp at hl
  |cons v r=>simp only [Ah];exact ⟨v,r,rfl,h 0 a v rfl rfl,Ah.of_at (by simpa using hl) (λi a v h1 h2=>h (i+1) a v (by simpa using h1) (by simpa using h2))⟩
def Ah.append {E:Ag}:∀{as:List AV} {vs:List Value} {bs:List AV} {us:List Value},Ah E as vs->Ah E bs us->Ah E (as++bs) (vs++us)
 |[],_,_,_,h,h'=>by simp only [Ah]at h;subst h;simpa using h'
 |a::as,vs,bs,us,h,h'=>by simp only [Ah]at h;obtain ⟨v,r,rfl,h2,h3⟩:=h;simp only [Bg,Ah];exact ⟨v,_,rfl,h2,h3.append h'⟩
def Ah.drop {E:Ag} {as:List AV} {vs:List Value} (h:Ah E as vs) (n:Nat):Ah E (as.drop n) (vs.drop n):=by refine Ah.of_at (by simp [h.length]) λi a v h1 h2=>?_;simp only [List.getElem?_drop]at h1 h2;obtain ⟨v',h3,h4⟩:=h.at _ _ h1;rw [h2]at h3;cases h3;exact h4
def Ah.take {E:Ag} {as:List AV} {vs:List Value} (h:Ah E as vs) (n:Nat):Ah E (as.take n) (vs.take n):=by refine Ah.of_at (by simp [h.length]) λi a v h1 h2=>?_;simp only [List.getElem?_take]at h1 h2;split at h1;rename_i hlt;simp only [hlt,if_true]at h2;obtain ⟨v',h3,h4⟩:=h.at _ _ h1;rw [h2]at h3;cases h3;exact h4;cases h1
theorem Ah.nil (E:Ag):Ah E [] []:=by simp [Ah]
theorem Ah.cons {E:Ag} {a:AV} {v:Value} {as:List AV} {vs:List Value} (h:Ac E a v) (h':Ah E as vs):Ah E (a::as) (v::vs):=by simp only [Ah];exact ⟨v,vs,rfl,h,h'⟩
def AV.cells:AV->List AV
 | .agg cs=>cs
 |v=>[v]
theorem Aj.one {E:Ag} {a:AV} {v:Value} (h:Aj E a v) (ho:a.one=true):v.oneCell'=true:=by
 cases a<;>simp only [AV.one,Bool.false_eq_true]at ho<;>
  (simp only [Aj]at h<;>first
    |(subst h;rfl)
    |(obtain ⟨_,_,_,rfl,_⟩:=h;rfl)
    |(obtain ⟨_,_,_,_,rfl,_⟩:=h;rfl)
    |(obtain ⟨_,rfl,_⟩:=h;rfl))
def yw {v:Value} (h:v.oneCell'=true):v.cells.toList=[v]:=by cases v<;>first|rfl|(simp [Value.oneCell']at h)
theorem Ac.one {E:Ag} {a:AV} {v:Value} (h:Ac E a v) (ho:a.one=true):v.oneCell'=true:=by
 cases a<;>simp only [AV.one,Bool.false_eq_true]at ho<;>
  (simp only [Ac]at h;first
    |(subst h;rfl)
    |(obtain ⟨a,_,h1,h2⟩:=h;exact h2.one h1)
    |(obtain ⟨_,_,⟨_,rfl⟩|⟨_,_,_,_,_,_,_,_,_,_,rfl,_⟩⟩:=h<;>rfl)
    |(obtain ⟨_,_,_,_,_,_,_,_,_,rfl,_⟩:=h;rfl)
    |(obtain ⟨_,_,_,_,_,_,rfl⟩:=h;rfl)
    |(obtain ⟨_,_,_,rfl⟩:=h;rfl)
    |(obtain ⟨_,_,_,rfl,_⟩:=h;rfl)
    |(obtain ⟨_,_,_,_,_,_,_,rfl,_⟩:=h;rfl)
    |(obtain ⟨_,_,_,_,rfl,_⟩:=h;rfl)
    |(obtain ⟨_,_,rfl⟩:=h;rfl)
    |(obtain ⟨_,rfl,_⟩:=h;rfl))
theorem Ac.cells {E:Ag} {a:AV} {v:Value} (h:Ac E a v) (ho:a≠ .opq):Ah E a.cells v.cells.toList:=by
 have one:a.one=true->Ah E [a] v.cells.toList:=λh1=>by rw [yw (h.one h1)];exact Ah.cons h (Ah.nil E)
 cases a with
 |opq=>exact absurd rfl ho
 |agg cs=>simp only [Ac]at h;obtain ⟨vs,rfl,h2⟩:=h;simpa [Value.cells,AV.cells]using h2
 |tup cs=>simp only [AV.cells];have hc:=h;simp only [Ac]at h;obtain ⟨vs,rfl,h2⟩:=h;simpa [Value.cells]using Ah.cons hc (Ah.nil E)
 |_=>exact one rfl
def ConE (E:Ag):List (AV×AV×Nat)->List MapEntry->Prop
 |[],es=>es=[]
 |(k,v,n)::as,es=>∃e r,es=e::r/\Ac E k e.key/\Ac E v e.val/\e.born=n/\ConE E as r
def ConE.sub {E E':Ag} (h:E.sub E'):∀{as:List (AV×AV×Nat)} {es:List MapEntry},ConE E as es->ConE E' as es
 |[],_,hc=>hc
 |(k,v,n)::as,es,hc=>by simp only [ConE]at hc⊢;obtain ⟨e,r,h1,h2,h3,h4,h5⟩:=hc;exact ⟨e,r,h1,h2.sub h,h3.sub h,h4,h5.sub h⟩
theorem ConE.mono {E E':Ag} (h:E.le E') {as:List (AV×AV×Nat)} {es:List MapEntry} (hc:ConE E as es):ConE E' as es:=ConE.sub h.1 hc
def Ge:AV->AV
 | .agg cs=>.iface 0 (.agg cs)
 | .iface t a=>.iface 0 (.iface t a)
 |k=>k
def KW:AV->AV
 | .iface t a=>match t with
   |0=>a
   |t+1=>.iface (t+1) a
 |k=>k
theorem VK (k:AV):KW (Ge k)=k:=by cases k<;>rfl
def EC (E:Ag):List AV->List MapEntry->Prop
 |[],es=>es=[]
 |[_],_=>False
 |k::v::r,es=>∃e t,es=e::t/\(Ge (KW k)=k/\Aj E (KW k) e.key)/\Aj E v e.val/\EC E r t
def EC.imp {E E':Ag} (h:∀a v,Aj E a v->Aj E' a v):∀{cs:List AV} {es:List MapEntry},EC E cs es->EC E' cs es
 |[],es,hc=>hc
 |[_],es,hc=>hc
 |k::v::r,es,hc=>by obtain ⟨e,t,h1,h2,h3,h4⟩:=hc;exact ⟨e,t,h1,⟨h2.1,h _ _ h2.2⟩,h _ _ h3,EC.imp h h4⟩
def BlkAt (E:Ag) (w:World) (b o:Nat):A2->Prop
 | .cells cs=>∃(arr:Array Value) (t:TypeId),w.heap[b]? =some (.cells arr t (0,0))/\E.sz b=some arr.size/\o+cs.length<=arr.size/\
    ∀(i:Nat) (a:AV),cs[i]? =some a->∃v,arr[o+i]? =some v/\Ac E a v
 | .map es clock=>o=0/\∃es',w.heap[b]? =some (.map es' clock)/\ConE E es es'.toList
 | .syl j=>∃len sz cs,E.sy j=some (.vsl len sz cs)/\cs.length=len*sz/\∃(arr:Array Value) (t:TypeId),w.heap[b]? =some (.cells arr t (0,0))/\E.sz b=some arr.size/\o+cs.length<=arr.size/\
    ∀(i:Nat) (a:AV),cs[i]? =some a->∃v,arr[o+i]? =some v/\a.one=true/\Aj E a v
 | .fz cs=>∃(arr:Array Value) (t:TypeId) (fr:Nat×Nat),w.heap[b]? =some (.cells arr t fr)/\E.sz b=some arr.size/\o+cs.length<=arr.size/\fr.2<=o+cs.length/\
    ∀(i:Nat) (a:AV),cs[i]? =some a->∃v,arr[o+i]? =some v/\Ac E a v
 | .mpl j=>o=0/\∃n cs,E.sy j=some (.vsl n 2 cs)/\∃es' clock,w.heap[b]? =some (.map es' clock)/\es'.size=n/\EC E cs es'.toList
def BlkAt.sub {E E':Ag} {w w':World} {b o:Nat} {k:A2} (h:E.sub E') (hw:w'.heap[b]? =w.heap[b]?) (hk:BlkAt E w b o k):BlkAt E' w' b o k:=by
 cases k with
 |cells cs=>obtain ⟨arr,t,h1,h2,h3,h4⟩:=hk;refine ⟨arr,t,hw.trans h1,h.2.1 _ _ h2,h3,λi a ha=>?_⟩;obtain ⟨v,hv,hc⟩:=h4 i a ha;exact ⟨v,hv,hc.sub h⟩
 |map es clock=>obtain ⟨h0,es',h1,h2⟩:=hk;exact ⟨h0,es',hw.trans h1,h2.sub h⟩
 |syl j=>obtain ⟨len,sz,cs,h0,hlen,arr,t,h1,h2,h3,h4⟩:=hk;refine ⟨len,sz,cs,by rw [h.2.2.2.1];exact h0,hlen,arr,t,hw.trans h1,h.2.1 _ _ h2,h3,λi a ha=>?_⟩;obtain ⟨v,hv,ho,hc⟩:=h4 i a ha;exact ⟨v,hv,ho,hc.sub h⟩
 |fz cs=>obtain ⟨arr,t,fr,h1,h2,h3,h5,h4⟩:=hk;refine ⟨arr,t,fr,hw.trans h1,h.2.1 _ _ h2,h3,h5,λi a ha=>?_⟩;obtain ⟨v,hv,hc⟩:=h4 i a ha;exact ⟨v,hv,hc.sub h⟩
 |mpl j=>obtain ⟨h0,n,cs,h1,es',clock,h2,h3,h4⟩:=hk;exact ⟨h0,n,cs,by rw [h.2.2.2.1];exact h1,es',clock,hw.trans h2,h3,h4.imp λ_ _ hc=>hc.sub h⟩
theorem BlkAt.mono {E E':Ag} {w w':World} {b o:Nat} {k:A2} (h:E.le E') (hw:w'.heap[b]? =w.heap[b]?) (hk:BlkAt E w b o k):BlkAt E' w' b o k:=BlkAt.sub h.1 hw hk
def CW (E:Ag):A2->Prop
 | .syl j=>E.sy j=some .nsl
 |_=>False
def CW.sub {E E':Ag} (h:∀i,E.sy i=some .nsl->E'.sy i=some .nsl) {k:A2} (hv:CW E k):CW E' k:=by
 cases k with
 |syl j=>exact h j hv
 |_=>exact hv
def BF (E:Ag) (w:World) (own:Nat->Option Nat) (id:Nat) (k:A2):Prop:=(E.vd id/\CW E k)\/∃b o,E.φ id=some (b,o)/\own b=some id/\BlkAt E w b o k
def BF.imp {E E':Ag} {w w':World} {own own':Nat->Option Nat} {id:Nat} {k k':A2} (h:BF E w own id k) (hφ:∀x,E.φ id=some x->E'.φ id=some x) (hv:E.vd id/\CW E k->E'.vd id/\CW E' k')
  (hb:∀b o,E.φ id=some (b,o)->own b=some id->BlkAt E w b o k->own' b=some id/\BlkAt E' w' b o k'):BF E' w' own' id k':=by
 rcases h with h|⟨b,o,h1,h2,h3⟩;exact .inl (hv h);exact .inr ⟨b,o,hφ _ h1,hb b o h1 h2 h3⟩
structure As (B:World) (pr:Nat->Prop) (E:Ag) (H:AHeap) (w:World):Prop where
 own:∃own:Nat->Option Nat,
  (∀id k,H.get id=some k->BF E w own id k)/\
  (∀b,pr b->own b=none)/\(∀b o v,E.imm b o=some v->own b=none)
 imm:∀b o v,E.imm b o=some v->w.cell? ⟨b,o,none⟩=some v
 ib:∀b o v,pr b->E.imm b o=some v->E.bim b o=some v
 fresh:∀id,H.next<=id->id<H.hi->E.φ id=none
 resv:∀id,E.res id->E.φ id=none/\¬(H.next<=id/\id<H.hi)
 vds:∀id,E.vd id->E.res id
 szs:∀b n,E.sz b=some n->∃arr t fr,w.heap[b]? =some (.cells arr t fr)/\arr.size=n
 prot:∀b,pr b->b<B.heap.size/\w.heap[b]? =B.heap[b]?
 size:B.heap.size<=w.heap.size
 os:w.os=B.os
 output:w.output=B.output
section
variable {B:World} {pr:Nat->Prop} {E:Ag} {H:AHeap} {w:World}
def As.drawn (h:As B pr E H w) (n:Nat):As B pr E H { w with drawn:=n } where
 own:=by obtain ⟨own,h1,h2⟩:=h.own;refine ⟨own,λid k hk=>?_,h2⟩;exact (h1 id k hk).imp (λ_ h=>h) (λh=>h) λb o hφ ho hb=>⟨ho,hb.mono (Ag.le_refl _) rfl⟩
 imm:=h.imm
 ib:=h.ib
 fresh:=h.fresh
 resv:=h.resv
 vds:=h.vds
 szs:=h.szs
 prot:=h.prot
 size:=h.size
 os:=h.os
 output:=h.output
def As.blk (h:As B pr E H w) {id:Nat} {k:A2} (hk:H.get id=some k) {b o:Nat} (hφ:E.φ id=some (b,o)) (hnv:¬CW E k:=by exact λh=>h):BlkAt E w b o k:=by obtain ⟨own,h1,_⟩:=h.own;obtain ⟨_,hv⟩|⟨b',o',hφ',_,hb⟩:=h1 id k hk;exact absurd hv hnv;rw [hφ]at hφ';cases hφ';exact hb
end
end Go.Sx
namespace Go.Sx
theorem getElem?_lt_of_some {α:Type} {xs:Array α} {i:Nat} {x:α} (h:xs[i]? =some x):i<xs.size:=by
 grind
theorem Je {w:World} {o:Obj} {i:Nat} (h:i≠w.heap.size):(w.alloc o).heap[i]? =w.heap[i]? :=by simp only [World.alloc,Array.getElem?_push];rw [Ab h]
theorem T5 {w:World} {o:Obj}:(w.alloc o).heap[w.heap.size]? =some o:=by show (w.heap.push o)[w.heap.size]? =some o;simp
def ZH {w:World} {o:Obj} {a:Addr} {v:Value} (h:w.cell? a=some v):(w.alloc o).cell? a=some v:=by
 grind [World.cell?,Je]
def BlkAt.lt {E:Ag} {w:World} {b o:Nat} {k:A2} (h:BlkAt E w b o k):b<w.heap.size:=by
 cases k with
 |cells cs=>grind [Go.Sx.BlkAt]
 |map es c=>grind [Go.Sx.BlkAt]
 |syl j=>grind [Go.Sx.BlkAt]
 |fz cs=>grind [Go.Sx.BlkAt]
 |mpl j=>grind [Go.Sx.BlkAt]
def Ag.bind (E:Ag) (id b o:Nat):Ag:={ E with φ:=λi=>if i=id then some (b,o)else E.φ i }
def Ag.size (E:Ag) (b n:Nat):Ag:={ E with sz:=λi=>if i=b then some n else E.sz i }
def Ag.le_bind {E:Ag} {id b o:Nat} (h:E.φ id=none):E.le (E.bind id b o):=by
 refine ⟨⟨λi x hx=>?_,λ_ _ h=>h,λ_ _ _ h=>h,rfl,rfl⟩,rfl,rfl,rfl⟩
 grind [Ag.bind]
def Ag.le_size {E:Ag} {b n:Nat} (h:E.sz b=none):E.le (E.size b n):=by
 refine ⟨⟨λ_ _ h=>h,λi x hx=>?_,λ_ _ _ h=>h,rfl,rfl⟩,rfl,rfl,rfl⟩
 grind [Ag.size]
section
variable {B:World} {pr:Nat->Prop} {E:Ag} {H:AHeap} {w:World}
def As.sz_new (h:As B pr E H w):E.sz w.heap.size=none:=by
 cases hs:E.sz w.heap.size with
 |none=>rfl
 |some n=>obtain ⟨arr,t,fr,h1,_⟩:=h.szs _ _ hs;simp at h1
theorem As.room (h:H.room=true):H.next<H.hi/\H.next<Bb/\H.hi<=Bb:=by simp only [AHeap.room,Bool.and_eq_true,Nat.blt_eq,Nat.ble_eq]at h;omega
def As.resv_bind (h:As B pr E H w) (h1:H.next<H.hi) {b o:Nat} (id:Nat) (hi:E.res id):(E.bind H.next b o).φ id=none/\¬(Nat.succ H.next<=id/\id<H.hi):=by
 obtain ⟨q1,q2⟩:=h.resv id hi
 grind [Ag.bind]
def As.new_cells (h:As B pr E H w) (hr:H.room=true) {cs:List AV} {arr:Array Value} {t:TypeId} (hl:cs.length<=arr.size)
  (hc:∀(i:Nat) (a:AV),cs[i]? =some a->∃v,arr[i]? =some v/\Ac E a v):
  E.le ((E.bind H.next w.heap.size 0).size w.heap.size arr.size)/\
  As B pr ((E.bind H.next w.heap.size 0).size w.heap.size arr.size) (H.push (.cells cs)) (w.alloc (.cells arr t)):=by
 obtain ⟨h1,h2,h3⟩:=As.room hr;have hf:=h.fresh H.next (za' _) h1;have hle:E.le ((E.bind H.next w.heap.size 0).size w.heap.size arr.size):=Ag.le_trans (Ag.le_bind hf) (Ag.le_size (by exact h.sz_new));refine ⟨hle,?_⟩;refine { own:=?_,ib:=h.ib,imm:=λb o v hi=>ZH (h.imm b o v hi),fresh:=?_,resv:=h.resv_bind h1,vds:=h.vds,szs:=?_,prot:=?_,size:=?_,os:=h.os,output:=h.output }
 .obtain ⟨own,g1,g2,g3⟩:=h.own;refine ⟨λb=>if b=w.heap.size then some H.next else own b,λid k hk=>?_,λb hb=>?_,λb o v hi=>?_⟩;by_cases hid:H.next=id;subst hid;rw [AHeap.get_push_same H h2]at hk;cases hk;refine .inr ⟨w.heap.size,0,by simp [Ag.bind,Ag.size],by simp,arr,t,T5,by simp [Ag.size],by omega,λi a ha=>?_⟩;obtain ⟨v,hv,hcv⟩:=hc i a ha;exact ⟨v,by grind,hcv.mono hle⟩;rw [AHeap.get_push_ne H h2 hid]at hk;refine (g1 id k hk).imp (λx hx=>hle.1.1 _ _ hx) (λh=>h) λb o hφ ho hb=>?_;have hlt:=hb.lt;have hne:b≠w.heap.size:=(by omega);exact ⟨by grind,hb.mono hle (Je hne)⟩
  .have:=(h.prot b hb).1;have hs:=h.size
   grind
  .have hcell:=h.imm b o v hi;have hne:b≠w.heap.size:=by
    grind [World.cell?]
   simp [hne,g3 b o v hi]
 .intro id hid1 hid2;have hne:id≠H.next:=by have:H.next<id:=hid1;omega
  have:H.next<=id:=zb' hid1;simp only [Ag.size,Ag.bind,Ab hne];exact h.fresh id this hid2
 .intro b n hn;by_cases hb:b=w.heap.size;subst hb;simp only [Ag.size,Ad]at hn;cases hn;exact ⟨arr,t,_,T5,rfl⟩
  .simp only [Ag.size,Ab hb]at hn;obtain ⟨arr',t',fr',g1,g2⟩:=h.szs b n hn
   grind [Je]
 .intro b hb;obtain ⟨g1,g2⟩:=h.prot b hb
  grind [Je]
 have:=h.size;simp;omega
def As.set_cells (h:As B pr E H w) {id:Nat} {k:A2} (hk:H.get id=some k) {b o:Nat} (hφ:E.φ id=some (b,o))
  {arr:Array Value} {t:TypeId} (hg:w.heap[b]? =some (.cells arr t (0,0))) {arr':Array Value} (hsz:arr'.size=arr.size) {cs':List AV} (hl:o+cs'.length<=arr.size)
  (hc:∀(i:Nat) (a:AV),cs'[i]? =some a->∃v,arr'[o+i]? =some v/\Ac E a v) (hnv:¬CW E k:=by exact λh=>h):
  As B pr E (H.set id (.cells cs')) (w.setRow b arr'):=by
 obtain ⟨own,g1,g2,g3⟩:=h.own;obtain ⟨_,hvoid⟩|⟨b',o',hφ',hown,hb⟩:=g1 id k hk
 .grind
 rw [hφ]at hφ';cases hφ';have hidlt:=AHeap.get_lt hk;have hnew:(w.setRow b arr').heap[b]? =some (.cells arr' t (0,0)):=setRow_heap w b arr arr' t (0,0) hg;refine { own:=⟨own,λid' k' hk'=>?_,g2,g3⟩,ib:=h.ib,imm:=?_,fresh:=h.fresh,resv:=h.resv,vds:=h.vds,szs:=?_,prot:=?_,size:=by simpa using h.size,os:=h.os,output:=h.output }
 .by_cases hid:id=id'
  .subst hid;rw [AHeap.get_set_same H hidlt]at hk';cases hk';refine .inr ⟨b,o,hφ,hown,arr',t,hnew,?_,by omega,hc⟩;rw [hsz];cases k with
   |cells cs=>simp_all [Go.Sx.BlkAt]
   |map es c=>simp_all [Go.Sx.BlkAt]
   |syl j=>obtain ⟨_,_,_,_,_,arr2,t2,e1,e2,_⟩:=hb;grind
   |fz cs=>obtain ⟨arr2,t2,fr2,e1,e2,_⟩:=hb;grind
   |mpl j=>simp_all [Go.Sx.BlkAt]
  .rw [AHeap.get_set_ne H hidlt hid]at hk';refine (g1 id' k' hk').imp (λ_ h=>h) (λh=>h) λb2 o2 hφ2 hown2 hb2=>?_;have hne:b2≠b:=by
    grind
   exact ⟨hown2,hb2.mono (Ag.le_refl _) (setRow_other w b b2 arr' hne)⟩
 intro b2 o2 v hi;have hne:b2≠b:=(by grind);rw [cell_setRow_other w b arr' _ hne];exact h.imm b2 o2 v hi
 .intro b2 n hn;obtain ⟨arr2,t2,fr2,e1,e2⟩:=h.szs b2 n hn
  grind [setRow_other]
 intro b2 hb2;have hne:b2≠b:=(by grind);exact ⟨(h.prot b2 hb2).1,(setRow_other w b b2 arr' hne).trans (h.prot b2 hb2).2⟩
def As.forget (h:As B pr E H w) {H':AHeap} (hsub:∀id k,H'.get id=some k->H.get id=some k) (hn:H.next<=H'.next) (hh:H'.hi<=H.hi):As B pr E H' w:=by
 obtain ⟨own,g1,g2⟩:=h.own
 exact { own:=⟨own,λid k hk=>g1 id k (hsub id k hk),g2⟩,ib:=h.ib,imm:=h.imm,fresh:=λid h1 h2=>h.fresh id (zd' hn h1) (ze' h2 hh),resv:=λid hi=>⟨(h.resv id hi).1,λhx=>(h.resv id hi).2 ⟨zd' hn hx.1,ze' hx.2 hh⟩⟩,vds:=h.vds,szs:=h.szs,prot:=h.prot,
         size:=h.size,os:=h.os,output:=h.output }
theorem As.erase (h:As B pr E H w) (id:Nat):As B pr E (H.erase id) w:=by
 refine h.forget (λid' k hk=>?_) (za' _) (za' _)
 grind [AHeap.get_erase_same,AHeap.get_erase_ne]
def As.renew (h:As B pr E H w) (hr:H.room=true) {id:Nat} {k:A2} (hk:H.get id=some k) {b o:Nat} (hφ:E.φ id=some (b,o))
  {arr:Array Value} {t:TypeId} (hg:w.heap[b]? =some (.cells arr t (0,0))) {o':Nat} {cs':List AV} (hl:o'+cs'.length<=arr.size)
  (hc:∀(i:Nat) (a:AV),cs'[i]? =some a->∃v,arr[o'+i]? =some v/\Ac E a v) (hnv:¬CW E k:=by exact λh=>h):
  E.le (E.bind H.next b o')/\As B pr (E.bind H.next b o') ((H.erase id).push (.cells cs')) w:=by
 obtain ⟨h1,h2,h3⟩:=As.room hr;have hf:=h.fresh H.next (za' _) h1;have hle:E.le (E.bind H.next b o'):=Ag.le_bind hf;refine ⟨hle,?_⟩;obtain ⟨own,g1,g2,g3⟩:=h.own;obtain ⟨_,hvoid⟩|⟨b',o2,hφ',hown,hb⟩:=g1 id k hk
 .grind
 rw [hφ]at hφ';cases hφ';have hsz:E.sz b=some arr.size:=by
  cases k with
  |cells cs=>
   obtain ⟨arr2,t2,e1,e2,_⟩:=hb
   grind
  |map es c=>obtain ⟨_,es',e1,_⟩:=hb;grind
  |syl j=>obtain ⟨_,_,_,_,_,arr2,t2,e1,e2,_⟩:=hb;grind
  |fz cs=>obtain ⟨arr2,t2,fr2,e1,e2,_⟩:=hb;grind
  |mpl j=>obtain ⟨_,_,_,_,es',c,e1,_⟩:=hb;grind
 refine { own:=?_,ib:=h.ib,imm:=h.imm,fresh:=?_,resv:=h.resv_bind h1,vds:=h.vds,szs:=h.szs,prot:=h.prot,size:=h.size,os:=h.os,output:=h.output }
 .refine ⟨λx=>if x=b then some H.next else own x,λid' k' hk'=>?_,λx hx=>?_,λx y v hi=>?_⟩;by_cases hid':H.next=id';subst hid';have e:((H.erase id).push (.cells cs')).get H.next=some (.cells cs'):=AHeap.get_push_same (H.erase id) h2 _;rw [e]at hk';cases hk';refine .inr ⟨b,o',by simp [Ag.bind],by simp,arr,t,hg,hsz,hl,λi a ha=>?_⟩;obtain ⟨v,hv,hcv⟩:=hc i a ha;exact ⟨v,hv,hcv.mono hle⟩;have e:((H.erase id).push (.cells cs')).get id'=(H.erase id).get id':=AHeap.get_push_ne (H.erase id) h2 hid' _;rw [e]at hk';have hne:id≠id':=(by grind [AHeap.get_erase_same]);rw [AHeap.get_erase_ne H hne]at hk';refine (g1 id' k' hk').imp (λx hx=>hle.1.1 _ _ hx) (λh=>h) λb3 o3 hφ3 hown3 hb3=>?_;have hneb:b3≠b:=(by grind);exact ⟨by grind,hb3.mono hle rfl⟩
  .grind
  have hne:x≠b:=(by intro e;subst e;rw [g3 _ _ _ hi]at hown;cases hown);simp [hne,g3 x y v hi]
 intro i hi1 hi2;have hlt:H.next<i:=hi1;have hne:i≠H.next:=(by omega);simp only [Ag.bind,Ab hne];exact h.fresh i (zb' hlt) hi2
def As.moveF (h:As B pr E H w) (hr:H.room=true) {id:Nat} {k:A2} (hk:H.get id=some k) {b o:Nat} (hφ:E.φ id=some (b,o))
  {arr:Array Value} {t:TypeId} {fr:Nat×Nat} (hg:w.heap[b]? =some (.cells arr t fr)) (hs:E.sz b=some arr.size) {arr':Array Value} (hsz:arr'.size=arr.size) {o':Nat} {cs':List AV} (hl:o'+cs'.length<=arr.size) (hfr:fr.2<=o'+cs'.length)
  (hc:∀(i:Nat) (a:AV),cs'[i]? =some a->∃v,arr'[o'+i]? =some v/\Ac E a v) (hnv:¬CW E k:=by exact λh=>h):
  E.le (E.bind H.next b o')/\As B pr (E.bind H.next b o') ((H.erase id).push (.fz cs')) (w.setRow b arr'):=by
 obtain ⟨h1,h2,h3⟩:=As.room hr;have hf:=h.fresh H.next (za' _) h1;have hle:E.le (E.bind H.next b o'):=Ag.le_bind hf;refine ⟨hle,?_⟩;have hid:=AHeap.get_lt hk;obtain ⟨own,g1,g2,g3⟩:=h.own;obtain ⟨_,hvoid⟩|⟨b',o2,hφ',hown,hb⟩:=g1 id k hk
 .grind
 rw [hφ]at hφ';cases hφ';have hnew:(w.setRow b arr').heap[b]? =some (.cells arr' t fr):=setRow_heap w b arr arr' t fr hg;have hpr:∀x,pr x->x≠b:=λx hx e=>by grind
 have him:∀x y v,E.imm x y=some v->x≠b:=λx y v hx e=>by grind
 refine { own:=?_,imm:=λx y v hi=>?_,ib:=h.ib,fresh:=?_,resv:=h.resv_bind h1,vds:=h.vds,szs:=λx n hn=>?_,prot:=λx hx=>?_,size:=by simpa using h.size,os:=h.os,output:=h.output }
 .refine ⟨λx=>if x=b then some H.next else own x,λid' k' hk'=>?_,λx hx=>?_,λx y v hi=>?_⟩;by_cases hid':H.next=id';subst hid';have e:((H.erase id).push (.fz cs')).get H.next=some (.fz cs'):=AHeap.get_push_same (H.erase id) h2 _;rw [e]at hk';cases hk';refine .inr ⟨b,o',by simp [Ag.bind],by simp,arr',t,fr,hnew,by rw [hsz];exact hs,by omega,hfr,λi a ha=>?_⟩;obtain ⟨v,hv,hcv⟩:=hc i a ha;exact ⟨v,hv,hcv.mono hle⟩;have e:((H.erase id).push (.fz cs')).get id'=(H.erase id).get id':=AHeap.get_push_ne (H.erase id) h2 hid' _;rw [e]at hk';have hne:id≠id':=(by grind [AHeap.get_erase_same]);rw [AHeap.get_erase_ne H hne]at hk';refine (g1 id' k' hk').imp (λx hx=>hle.1.1 _ _ hx) (λh=>h) λb3 o3 hφ3 hown3 hb3=>?_;have hneb:b3≠b:=(by grind);exact ⟨by grind,hb3.mono hle (setRow_other w b b3 arr' hneb)⟩
  .grind
  simp [him x y v hi,g3 x y v hi]
 rw [cell_setRow_other w b arr' _ (him x y v hi)];exact h.imm x y v hi;intro i hi1 hi2;have hlt:H.next<i:=hi1;have hne:i≠H.next:=(by omega);simp only [Ag.bind,Ab hne];exact h.fresh i (zb' hlt) hi2
 .obtain ⟨arr2,t2,fr2,e1,e2⟩:=h.szs x n hn
  grind [setRow_other]
 exact ⟨(h.prot x hx).1,(setRow_other w b x arr' (hpr x hx)).trans (h.prot x hx).2⟩
def As.toF (h:As B pr E H w) {id:Nat} {cs:List AV} (hk:H.get id=some (.cells cs)):As B pr E (H.set id (.fz cs)) w:=by
 obtain ⟨own,g1,g2⟩:=h.own;refine { own:=⟨own,λid' k' hk'=>?_,g2⟩,imm:=h.imm,ib:=h.ib,fresh:=h.fresh,resv:=h.resv,vds:=h.vds,szs:=h.szs,prot:=h.prot,size:=h.size,os:=h.os,output:=h.output };by_cases e:id=id';subst e;rw [AHeap.get_set_same H (AHeap.get_lt hk)]at hk';cases hk';obtain ⟨_,hvoid⟩|⟨b,o,h1,h2,arr,t,h3,h4,h5,h6⟩:=g1 id _ hk;exact hvoid.elim;exact .inr ⟨b,o,h1,h2,arr,t,(0,0),h3,h4,h5,Nat.zero_le _,h6⟩
 grind [AHeap.get_set_ne,AHeap.get_lt]
def As.new_map (h:As B pr E H w) (hr:H.room=true):
  E.le (E.bind H.next w.heap.size 0)/\As B pr (E.bind H.next w.heap.size 0) (H.push (.map [] 0)) (w.alloc (.map #[] 0)):=by
 obtain ⟨h1,h2,h3⟩:=As.room hr;have hf:=h.fresh H.next (za' _) h1;have hle:E.le (E.bind H.next w.heap.size 0):=Ag.le_bind hf;refine ⟨hle,?_⟩;refine { own:=?_,ib:=h.ib,imm:=λb o v hi=>ZH (h.imm b o v hi),fresh:=?_,resv:=h.resv_bind h1,vds:=h.vds,szs:=?_,prot:=?_,size:=?_,os:=h.os,output:=h.output }
 .obtain ⟨own,g1,g2,g3⟩:=h.own;refine ⟨λb=>if b=w.heap.size then some H.next else own b,λid k hk=>?_,λb hb=>?_,λb o v hi=>?_⟩;by_cases hid:H.next=id;subst hid;rw [AHeap.get_push_same H h2]at hk;cases hk;exact .inr ⟨w.heap.size,0,by simp [Ag.bind],by simp,rfl,#[],T5,by simp [ConE]⟩;rw [AHeap.get_push_ne H h2 hid]at hk;refine (g1 id k hk).imp (λx hx=>hle.1.1 _ _ hx) (λh=>h) λb o hφ ho hb=>?_;have hlt:=hb.lt;have hne:b≠w.heap.size:=(by omega);exact ⟨by grind,hb.mono hle (Je hne)⟩
  .have:=(h.prot b hb).1;have hs:=h.size
   grind
  .have hcell:=h.imm b o v hi;have hne:b≠w.heap.size:=by
    grind [World.cell?]
   simp [hne,g3 b o v hi]
 intro id hid1 hid2;have hlt:H.next<id:=hid1;have hne:id≠H.next:=(by omega);simp only [Ag.bind,Ab hne];exact h.fresh id (zb' hlt) hid2
 .intro b n hn;obtain ⟨arr',t',fr',g1,g2⟩:=h.szs b n hn
  grind [Je]
 .intro b hb;obtain ⟨g1,g2⟩:=h.prot b hb
  grind [Je]
 have:=h.size;simp;omega
def As.set_map (h:As B pr E H w) {id:Nat} {es0:List (AV×AV×Nat)} {c0:Nat} (hk:H.get id=some (.map es0 c0)) {b o:Nat} (hφ:E.φ id=some (b,o))
  {es:List (AV×AV×Nat)} {c:Nat} {es':Array MapEntry} (hc:ConE E es es'.toList):
  As B pr E (H.set id (.map es c)) { w with heap:=w.heap.setIfInBounds b (.map es' c) }:=by
 obtain ⟨own,g1,g2,g3⟩:=h.own;obtain ⟨_,hvoid⟩|⟨b',o',hφ',hown,hb⟩:=g1 id _ hk;exact hvoid.elim;rw [hφ]at hφ';cases hφ';have hidlt:=AHeap.get_lt hk;obtain ⟨ho0,es1,hg,_⟩:=hb;have hblt:=getElem?_lt_of_some hg;have hother:∀j,j≠b->(w.heap.setIfInBounds b (.map es' c))[j]? =w.heap[j]? :=λj hj=>by
  grind
 have hsame:(w.heap.setIfInBounds b (.map es' c))[b]? =some (.map es' c):=by
  grind
 refine { own:=⟨own,λid' k' hk'=>?_,g2,g3⟩,ib:=h.ib,imm:=?_,fresh:=h.fresh,resv:=h.resv,vds:=h.vds,szs:=?_,prot:=?_,size:=by simpa using h.size,os:=h.os,output:=h.output }
 .by_cases hid:id=id';subst hid;rw [AHeap.get_set_same H hidlt]at hk';cases hk';exact .inr ⟨b,o,hφ,hown,ho0,es',hsame,hc⟩
  .rw [AHeap.get_set_ne H hidlt hid]at hk';refine (g1 id' k' hk').imp (λ_ h=>h) (λh=>h) λb2 o2 hφ2 hown2 hb2=>?_;have hne:b2≠b:=by
    grind
   exact ⟨hown2,hb2.mono (Ag.le_refl _) (hother b2 hne)⟩
 .intro b2 o2 v hi;have:=h.imm b2 o2 v hi
  grind [World.cell?]
 .intro b2 n hn;obtain ⟨arr2,t2,fr2,e1,e2⟩:=h.szs b2 n hn
  grind
 intro b2 hb2;have hne:b2≠b:=(by grind);exact ⟨(h.prot b2 hb2).1,(hother b2 hne).trans (h.prot b2 hb2).2⟩
end
def Cs (P:Program) {α:Type}:Sem α->Option α
 | .pure a=>some a
 | .program k=>Cs P (k P)
 | .mark _ k=>Cs P k
 |_=>none
theorem KN {P:Program} {α:Type}:∀{s:Sem α} {a:α},Cs P s=some a->∀w,s.run P w=.ok a w
 | .pure a,b,h,w=>by simp_all [Cs]
 | .program k,b,h,w=>by simp only [Cs]at h;exact KN (s:=k P) h w
 | .mark m k,b,h,w=>by simp only [Cs]at h;exact KN (s:=k) h w
 | .load ..,b,h,w=>by simp [Cs]at h
 | .store ..,b,h,w=>by simp [Cs]at h
 | .new ..,b,h,w=>by simp [Cs]at h
 | .shape ..,b,h,w=>by simp [Cs]at h
 | .freeze ..,b,h,w=>by simp [Cs]at h
 | .frozen ..,b,h,w=>by simp [Cs]at h
 | .getObj ..,b,h,w=>by simp [Cs]at h
 | .setObj ..,b,h,w=>by simp [Cs]at h
 | .choose ..,b,h,w=>by simp [Cs]at h
 | .sys ..,b,h,w=>by simp [Cs]at h
 | .halt ..,b,h,w=>by simp [Cs]at h
def Nt:Value->AV
 | .bool b=>.bool b
 | .int k n=>.int k n
 | .float k n=>.flt k n
 | .string ⟨⟨s⟩⟩=>.str s
 | .pointer none=>.nptr
 | .slice none 0 0=>.nsl
 | .map none=>.nmap
 | .nilFunc=>.nfn
 | .nilIface=>.nif
 | .func (.func f) ⟨[]⟩ ⟨[]⟩=>.fn f []
 |_=>.opq
def T8 (E:Ag) (v:Value):Ac E (Nt v) v:=by
 unfold Nt
 grind [Ac,Ah]
def OA:List Value->List AV
 |[]=>[]
 |v::r=>Nt v::OA r
def V1 (E:Ag):∀vs:List Value,Ah E (OA vs) vs
 |[]=>by simp [OA,Ah]
 |v::r=>Ah.cons (T8 E v) (V1 E r)
def Gd:Value->AV
 | .agg ⟨cs⟩=>.agg (OA cs)
 | .tuple ⟨cs⟩=>.tup (OA cs)
 | .iface t v=>.iface t (Nt v)
 |v=>Nt v
def J1 (E:Ag) (v:Value):Ac E (Gd v) v:=by unfold Gd;split;exact ⟨_,rfl,V1 E _⟩;exact ⟨_,rfl,V1 E _⟩;exact ⟨_,rfl,T8 E _⟩;exact T8 E _
def Ch (z:Value):List AV:=match z with
 | .agg ⟨cs⟩=>OA cs
 |v=>[Nt v]
def H4 (E:Ag) (z:Value):Ah E (Ch z) z.cells.toList:=by
 unfold Ch;split;exact V1 E _
 .rename_i h;cases z<;>first|exact Ah.cons (T8 E _) (Ah.nil E)|exact absurd rfl (h _)
def PW:AV->Option Value
 | .bool b=>some (.bool b)
 | .int k n=>some (.int k n)
 | .flt k n=>some (.float k n)
 | .str s=>some (.string ⟨⟨s⟩⟩)
 | .nptr=>some (.pointer none)
 | .nsl=>some (.slice none 0 0)
 | .nmap=>some (.map none)
 | .nfn=>some .nilFunc
 | .nif=>some .nilIface
 | .fn f []=>some (.func (.func f) #[] #[])
 |_=>none
theorem Yj {E:Ag} {a:AV} {u v:Value} (h:PW a=some u) (hc:Ac E a v):v=u:=by
 unfold PW at h;split at h<;>first|(cases h;done)|(cases h;simpa only [Ac]using hc)|(cases h;simp only [Ac,Ah]at hc;obtain ⟨vs,rfl,rfl⟩:=hc;rfl)
def Nq:List AV->Option (List Value)
 |[]=>some []
 |a::r=>match PW a with
  |none=>none
  |some v=>match Nq r with
   |none=>none
   |some vs=>some (v::vs)
def ZT {E:Ag}:∀{as:List AV} {us vs:List Value},Nq as=some us->Ah E as vs->vs=us
 |[],us,vs,h,hc=>by grind [Nq,Ah]
 |a::as,us,vs,h,hc=>by simp only [Nq]at h;simp only [Ah]at hc;obtain ⟨v,r,rfl,h2,h3⟩:=hc;split at h;cases h;rename_i v0 hv0;split at h;cases h;rename_i vs0 hvs0;cases h;rw [Yj hv0 h2,ZT hvs0 h3]
def FD:AV->Option Value
 | .agg cs=>match Nq cs with
   |some l=>some (.agg ⟨l⟩)
   |none=>none
 | .tup cs=>match Nq cs with
   |some l=>some (.tuple ⟨l⟩)
   |none=>none
 | .iface t a=>match PW a with
   |some v=>some (.iface t v)
   |none=>none
 |a=>PW a
theorem P3 {E:Ag} {a:AV} {u v:Value} (h:FD a=some u) (hc:Ac E a v):v=u:=by
 cases a with
 |agg cs=>simp only [FD]at h;split at h;rename_i l hl;cases h;obtain ⟨vs,rfl,h2⟩:=hc;rw [ZT hl h2];cases h
 |tup cs=>simp only [FD]at h;split at h;rename_i l hl;cases h;obtain ⟨vs,rfl,h2⟩:=hc;rw [ZT hl h2];cases h
 |iface t a=>simp only [FD]at h;split at h;rename_i l hl;cases h;obtain ⟨vs,rfl,h2⟩:=hc;rw [Yj hl h2];cases h
 |_=>grind [Yj,FD]
def Gives (P:Program) (B:World) (pr:Nat->Prop) (E:Ag) (w:World) (s:Sem Value) (r:AV×AHeap):Prop:=
 ∃E' v' w',s.run P w=.ok v' w'/\E.le E'/\As B pr E' r.2 w'/\Ac E' r.1 v'
section
variable {P:Program} {B:World} {pr:Nat->Prop} {E:Ag} {H:AHeap} {w:World}
theorem Gives.still {s:Sem Value} {a:AV} {v:Value} (hr:As B pr E H w) (h:s.run P w=.ok v w) (hc:Ac E a v):Gives P B pr E w s (a,H):=
 ⟨E,v,w,h,Ag.le_refl _,hr,hc⟩
def CJ:Nat->List AV->Option (List AV)
 |0,_=>some []
 |_+1,[]=>none
 |n+1,a::r=>match CJ n r with
  |some t=>some (a::t)
  |none=>none
def Ju:∀{n:Nat} {l r:List AV},CJ n l=some r->r=l.take n/\r.length=n
 |0,l,r,h=>by grind [CJ]
 |n+1,[],r,h=>by simp [CJ]at h
 |n+1,a::l,r,h=>by simp only [CJ]at h;split at h;rename_i t ht;cases h;obtain ⟨h1,h2⟩:=Ju ht;exact ⟨by rw [List.take_succ_cons,←h1],by simp [h2]⟩;cases h
def Bk:Nat->List AV->List AV
 |0,l=>l
 |_+1,[]=>[]
 |n+1,_::r=>Bk n r
theorem Dh:∀(n:Nat) (l:List AV),Bk n l=l.drop n
 |0,l=>rfl
 |n+1,[]=>rfl
 |n+1,a::r=>Dh n r
def DB (H:AHeap) (a:AV) (n:Nat):Option (List AV):=match a with
 | .ptr id off=>match H.get id with
   |some (.cells cs)=>CJ n (Bk off cs)
   |_=>none
 | .vptr cs=>CJ n cs
 |_=>none
def KQ (hr:As B pr E H w) {a:AV} {v:Value} (hc:Ac E a v) {n:Nat} {l:List AV} (h:DB H a n=some l):
  ∃b o vs,v=.pointer (some ⟨b,o,none⟩)/\vs.length=n/\Ah E l vs/\∀(j:Nat) (u:Value),vs[j]? =some u->w.cell? ⟨b,o+j,none⟩=some u:=by
 unfold DB at h;split at h
 .rename_i id off;split at h
  .rename_i cs hk;obtain ⟨h1,h2⟩:=Ju h;rw [Dh]at h1;obtain ⟨b,o,hφ,rfl⟩:=hc;obtain ⟨arr,t,g1,g2,g3,g4⟩:=hr.blk hk hφ;refine ⟨b,o+off,(arr.toList.drop (o+off)).take n,rfl,?_,?_,?_⟩
   .grind
   .refine Ah.of_at ?_ λi x u hx hu=>?_
    .grind
    grind
   grind [World.cell?]
  cases h
 rename_i cs;obtain ⟨h1,h2⟩:=Ju h;obtain ⟨b,o,vs,rfl,hL,hI⟩:=hc;refine ⟨b,o,vs.take n,rfl,?_,?_,?_⟩;have:n<=cs.length:=(by grind);simp [hL.length];omega;rw [h1];exact hL.take n;intro j u hu;simp only [List.getElem?_take]at hu;split at hu;exact hr.imm _ _ _ (hI j u hu);cases hu;cases h
def OJ {b o:Nat} {vs:List Value} (h:∀(j:Nat) (u:Value),vs[j]? =some u->w.cell? ⟨b,o+j,none⟩=some u):
  (loadCells ⟨b,o,none⟩ vs.length).run P w=.ok ⟨vs⟩ w:=by
 grind [run_loadCells_list,Addr.add_lit]
def Iy (d:TypeDesc):Bool:=match d with
 | .struct _| .array _ _=>true
 |_=>false
theorem Kt {t:TypeId} {d:TypeDesc} (h:P.underlying t=some d):(isAgg t).run P w=.ok (Iy d) w:=by unfold isAgg;simp only [Sem.run_bind,run_underlying h,Result.andThen_ok,Iy];split<;>simp_all
theorem DK {t:TypeId} {i:TypeInfo} (h:P.info? t=some i):(sizeOf t).run P w=.ok i.size w:=by simp [sizeOf,typeInfo,h]
def Ds (P:Program) (H:AHeap) (t:TypeId) (a:AV):Option AV:=match P.underlying t with
 |none=>none
 |some d=>match Iy d with
  |true=>match P.info? t with
   |none=>none
   |some i=>match DB H a i.size with
    |some l=>some (.agg l)
    |none=>none
  |false=>match DB H a 1 with
   |some [c]=>some c
   |_=>none
theorem xR (hr:As B pr E H w) {t:TypeId} {a:AV} {v:Value} (hc:Ac E a v) {r:AV} (h:Ds P H t a=some r):
  Gives P B pr E w (Instr.loadAt t v) (r,H):=by
 unfold Ds at h;split at h;cases h;rename_i d hd;split at h
 .rename_i hag;split at h;cases h;rename_i i hi;split at h;rename_i l hl;cases h;obtain ⟨b,o,vs,rfl,hlen,hL,hcell⟩:=KQ hr hc hl;refine Gives.still hr (v:=.agg ⟨vs⟩) ?_ (by simp only [Ac];grind);have:=OJ (P:=P) hcell;simp_all [Instr.loadAt,Instr.sureAddr,loadVar,Kt,DK]
  cases h
 .rename_i hag;split at h;rename_i c hl;cases h;obtain ⟨b,o,vs,rfl,hlen,hL,hcell⟩:=KQ hr hc hl;obtain ⟨u,hu,hcu⟩:=hL.at 0 r rfl;refine Gives.still hr (v:=u) ?_ hcu;have:=hcell 0 u hu;simp_all [Instr.loadAt,Instr.sureAddr,loadVar,Kt]
  cases h
def Hd (P:Program) (s:TypeId) (a:AV) (f:Nat):Option AV:=match P.underlying s with
 |some (.struct fields)=>match fields[f]? with
  |some fl=>match P.info? fl.type with
   |some i=>match i.size with
    |0=>none
    |_+1=>match a with
     | .ptr id off=>some (.ptr id (Nat.add off fl.offset))
     | .vptr cs=>match Nat.ble fl.offset cs.length with
       |true=>some (.vptr (Bk fl.offset cs))
       |false=>none
     |_=>none
   |none=>none
  |none=>none
 |_=>none
theorem eN (hr:As B pr E H w) {s:TypeId} {a:AV} {v:Value} (hc:Ac E a v) {f:Nat} {r:AV} (h:Hd P s a f=some r):
  Gives P B pr E w (Instr.fieldAt s v f) (r,H):=by
 unfold Hd at h;split at h
 .rename_i fields hd;split at h
  .rename_i fl hfl;split at h
   .rename_i i hi;split at h;cases h;rename_i n hn;split at h;rename_i id off;cases h;obtain ⟨b,o,hφ,rfl⟩:=hc;refine Gives.still hr (v:=.pointer (some ⟨b,o+(off+fl.offset),none⟩)) ?_ (by simp only [Ac];grind);simp_all [Instr.fieldAt,run_underlying,Instr.sureAddr,fieldPlace,DK,Addr.add_lit]
    .split at h
     .cases h;obtain ⟨b,o,vs,rfl,hL,hI⟩:=hc;refine Gives.still hr (v:=.pointer (some ⟨b,o+fl.offset,none⟩)) ?_ ?_;simp_all [Instr.fieldAt,run_underlying,Instr.sureAddr,fieldPlace,DK,Addr.add_lit]
      .simp only [Ac,Dh];refine ⟨b,o+fl.offset,vs.drop fl.offset,rfl,hL.drop _,λi u hu=>?_⟩;rw [List.getElem?_drop]at hu;have:=hI _ _ hu
       grind
     cases h
    cases h
   cases h
  cases h
 cases h
def idx (i:Int) (len:Nat):Option Nat:=match i with
 | .ofNat n=>match Nat.blt n len with
   |true=>some n
   |false=>none
 | .negSucc _=>none
def VY {i:Int} {len n:Nat} (h:idx i len=some n):i=(n:Int)/\n<len:=by
 unfold idx at h;split at h
 .split at h<;>simp_all
 cases h
def Ht (P:Program) (t:TypeId) (x ix:AV):Option AV:=match ix with
 | .int _ i=>match P.underlying t with
   |some (.slice e)=>match P.info? e with
    |some ti=>match x with
     | .sl id off len _ _=>match idx i len with
       |some n=>some (.ptr id (Nat.add off (Nat.mul n ti.size)))
       |none=>none
     | .vsl len _ cs=>match idx i len with
       |some n=>some (.vptr (Bk (Nat.mul n ti.size) cs))
       |none=>none
     |_=>none
    |none=>none
   |some (.array len e)=>match P.info? e with
    |some ti=>match x with
     | .ptr id off=>match idx i len with
       |some n=>some (.ptr id (Nat.add off (Nat.mul n ti.size)))
       |none=>none
     | .vptr cs=>match idx i len with
       |some n=>some (.vptr (Bk (Nat.mul n ti.size) cs))
       |none=>none
     |_=>none
    |none=>none
   |_=>none
 |_=>none
theorem W0 (hr:As B pr E H w) {t:TypeId} {x ix:AV} {v iv:Value} (hc:Ac E x v) (hi:Ac E ix iv) {r:AV} (h:Ht P t x ix=some r):
  Gives P B pr E w (Instr.indexAt t v iv) (r,H):=by
 unfold Ht at h;split at h
 .rename_i k i;simp only [Ac]at hi;subst hi;split at h
  .rename_i e hd;split at h
   .rename_i ti hti;split at h;rename_i id off len sz cap;split at h;rename_i n hn;cases h;obtain ⟨rfl,hlt⟩:=VY hn;obtain ⟨b,o,m,c,off',hφ,hsz,rfl,hoff,hle,_⟩:=hc;obtain rfl:=hoff (by omega);refine Gives.still hr (v:=.pointer (some ⟨b,o+(off'+n*ti.size),none⟩)) ?_ (by simp only [Ac];grind);have h0:(0:Int)<=(n:Int)/\(n:Int)<(len:Int):=(by omega);simp [Instr.indexAt,asIntOf,run_underlying hd,h0,hlt,DK hti,Addr.add_lit,Nat.add_assoc];cases h
    .rename_i len sz cs;split at h
     .rename_i n hn;cases h;obtain ⟨rfl,hlt⟩:=VY hn;obtain ⟨b,o,vs,c,rfl,hle,hL,hI⟩:=hc;refine Gives.still hr (v:=.pointer (some ⟨b,o+n*ti.size,none⟩)) ?_ ?_;have h0:(0:Int)<=(n:Int)/\(n:Int)<(len:Int):=(by omega);simp [Instr.indexAt,asIntOf,run_underlying hd,h0,hlt,DK hti,Addr.add_lit]
      .simp only [Ac,Dh];refine ⟨b,o+n*ti.size,vs.drop (n*ti.size),rfl,hL.drop _,λi u hu=>?_⟩;rw [List.getElem?_drop]at hu;have:=hI _ _ hu
       grind
     cases h
    cases h
   cases h
  .rename_i len e hd;split at h
   .rename_i ti hti;split at h;rename_i id off;split at h;rename_i n hn;cases h;obtain ⟨rfl,hlt⟩:=VY hn;obtain ⟨b,o,hφ,rfl⟩:=hc;refine Gives.still hr (v:=.pointer (some ⟨b,o+(off+n*ti.size),none⟩)) ?_ (by simp only [Ac];grind);have h0:(0:Int)<=(n:Int)/\(n:Int)<(len:Int):=(by omega);simp [Instr.indexAt,asIntOf,run_underlying hd,Instr.sureAddr,h0,hlt,DK hti,Addr.add_lit,Nat.add_assoc];cases h
    .split at h
     .rename_i n hn;cases h;obtain ⟨rfl,hlt⟩:=VY hn;obtain ⟨b,o,vs,rfl,hL,hI⟩:=hc;refine Gives.still hr (v:=.pointer (some ⟨b,o+n*ti.size,none⟩)) ?_ ?_;have h0:(0:Int)<=(n:Int)/\(n:Int)<(len:Int):=(by omega);simp [Instr.indexAt,asIntOf,run_underlying hd,Instr.sureAddr,h0,hlt,DK hti,Addr.add_lit]
      .simp only [Ac,Dh];refine ⟨b,o+n*ti.size,vs.drop (n*ti.size),rfl,hL.drop _,λi u hu=>?_⟩;rw [List.getElem?_drop]at hu;have:=hI _ _ hu
       grind
     cases h
    cases h
   cases h
  cases h
 cases h
def RJ (P:Program) (t:TypeId) (cs:List AV) (off:Nat):Option AV:=match P.underlying t with
 |none=>none
 |some d=>match Iy d with
  |true=>match P.info? t with
   |none=>none
   |some i=>match CJ i.size (Bk off cs)with
    |some l=>some (.agg l)
    |none=>none
  |false=>match Bk off cs with
   |c::_=>some c
   |[]=>none
def YB {t:TypeId} {cs:List AV} {vs:List Value} (hL:Ah E cs vs) {off:Nat} {r:AV} (h:RJ P t cs off=some r):
  ∃u,(part t ⟨vs⟩ off).run P w=.ok u w/\Ac E r u:=by
 unfold RJ at h;split at h;cases h;rename_i d hd;split at h
 .rename_i hag;split at h;cases h;rename_i i hi;split at h
  .rename_i l hl;cases h;obtain ⟨h1,h2⟩:=Ju hl;rw [Dh]at h1;refine ⟨.agg ⟨(vs.drop off).take i.size⟩,?_,?_⟩;simp_all [part,Kt,DK]
   exact ⟨_,rfl,by rw [h1];exact (hL.drop off).take _⟩
  cases h
 .rename_i hag;split at h
  .rename_i c r' hcs;cases h;rw [Dh]at hcs;have hx:cs[off]? =some r:=by
    have:(cs.drop off)[0]? =some r:=by rw [hcs];rfl
    grind
   obtain ⟨u,hu,hcu⟩:=hL.at off r hx;simp_all [part,Kt]
  cases h
def RH (P:Program) (s:TypeId) (a:AV) (f:Nat):Option AV:=match P.underlying s with
 |some (.struct fields)=>match fields[f]? with
  |some fl=>match a with
   | .agg cs=>RJ P fl.type cs fl.offset
   |_=>none
  |none=>none
 |_=>none
theorem k5_ (hr:As B pr E H w) {s:TypeId} {a:AV} {v:Value} (hc:Ac E a v) {f:Nat} {r:AV} (h:RH P s a f=some r):
  Gives P B pr E w (Instr.field s v f) (r,H):=by
 unfold RH at h;split at h
 .rename_i fields hd;split at h
  .rename_i fl hfl;split at h;obtain ⟨vs,rfl,hL⟩:=hc;obtain ⟨u,hu,hcu⟩:=YB (w:=w) hL h;simp_all [Gives.still,Instr.field,run_underlying,asAgg]
   cases h
  cases h
 cases h
def Ud (a:AV) (i:Nat):Option AV:=match a with
 | .tup cs=>match Bk i cs with
   |c::_=>some c
   |[]=>none
 |_=>none
theorem ua (hr:As B pr E H w) {a:AV} {v:Value} (hc:Ac E a v) {i:Nat} {r:AV} (h:Ud a i=some r):
  Gives P B pr E w (Instr.extract v i) (r,H):=by
 unfold Ud at h;split at h
 .rename_i cs;split at h
  .rename_i c r' hcs;cases h;obtain ⟨vs,rfl,hL⟩:=hc;rw [Dh]at hcs;have hx:cs[i]? =some r:=by
    have:(cs.drop i)[0]? =some r:=by rw [hcs];rfl
    grind
   obtain ⟨u,hu,hcu⟩:=hL.at i r hx;simp_all [Gives.still,Instr.extract]
  cases h
 cases h
end
section
variable {P:Program} {B:World} {pr:Nat->Prop} {E:Ag} {H:AHeap} {w:World}
def Hz (H:AHeap) (cs:List AV):Option (AV×AHeap):=match H.room with
 |true=>some (.ptr H.next 0,H.push (.cells cs))
 |false=>none
def qS_ {cs:List AV} {arr:Array Value} (h:Ah E cs arr.toList):∀(i:Nat) (a:AV),cs[i]? =some a->∃v,arr[i]? =some v/\Ac E a v:=λi a ha=>by
 obtain ⟨v,hv,hc⟩:=h.at i a ha
 grind
def bJ (hr:As B pr E H w) {cs:List AV} {arr:Array Value} (t:TypeId) (hc:Ah E cs arr.toList) {r:AV×AHeap} (h:Hz H cs=some r):
  ∃E',E.le E'/\As B pr E' r.2 (w.alloc (.cells arr t))/\E'.sz w.heap.size=some arr.size/\r.1=.ptr H.next 0/\E'.φ H.next=some (w.heap.size,0):=by
 unfold Hz at h;split at h;rename_i hroom;cases h;obtain ⟨h1,h2⟩:=hr.new_cells hroom (cs:=cs) (arr:=arr) (t:=t) (by have:=hc.length;grind) (qS_ hc);exact ⟨_,h1,h2,by simp [Ag.size],rfl,by simp [Ag.size,Ag.bind]⟩;cases h
def ke (hr:As B pr E H w) {cs:List AV} {arr:Array Value} {t:TypeId} (hc:Ah E cs arr.toList) {r:AV×AHeap} (h:Hz H cs=some r) {s:Sem Value}
  (hs:s.run P w=.ok (.pointer (some ⟨w.heap.size,0,none⟩)) (w.alloc (.cells arr t))):Gives P B pr E w s r:=by
 obtain ⟨E',h1,h2,h3,h4,h5⟩:=bJ hr t hc h;exact ⟨E',_,_,hs,h1,h2,by rw [h4];simp only [Ac];grind⟩
def M9 (P:Program) (H:AHeap) (t:TypeId):Option (AV×AHeap):=match P.info? t with
 |some i=>match i.zero with
  |some z=>Hz H (Ch z)
  |none=>none
 |none=>none
theorem mb_ (hr:As B pr E H w) {t:TypeId} {r:AV×AHeap} (h:M9 P H t=some r):Gives P B pr E w (Instr.alloc t true (.tuple #[])) r:=by unfold M9 at h;split at h;rename_i i hi;split at h;rename_i z hz;refine ke hr (t:=t) (H4 E z) h ?_;simp [Instr.alloc,zeroValue,typeInfo,hi,hz,newVar,newRow];cases h;cases h
def Rc (H:AHeap) (a:AV):Option (AV×AHeap):=match a with
 | .opq=>none
 |a=>Hz H a.cells
theorem uM (hr:As B pr E H w) {t:TypeId} {a:AV} {v:Value} (hc:Ac E a v) {r:AV×AHeap} (h:Rc H a=some r):Gives P B pr E w (Instr.box t v) r:=by unfold Rc at h;split at h;cases h;rename_i hne;exact ke hr (t:=t) (hc.cells hne) h (by simp [Instr.box,newVar,newRow])
def Eo:Nat->List AV->List AV->Option (List AV)
 |0,[],cs=>some cs
 |0,_::_,[]=>none
 |0,x::xs,_::cs=>match Eo 0 xs cs with
  |some r=>some (x::r)
  |none=>none
 |_+1,_,[]=>none
 |n+1,xs,c::cs=>match Eo n xs cs with
  |some r=>some (c::r)
  |none=>none
def LB:∀(cs:List AV) {n:Nat} {xs r:List AV},Eo n xs cs=some r->n+xs.length<=cs.length/\r=cs.take n++xs++cs.drop (n+xs.length)
 |cs,0,[],r,h=>by grind [Eo]
 |[],0,x::xs,r,h=>by simp [Eo]at h
 |c::cs,0,x::xs,r,h=>by
  simp only [Eo]at h;split at h
  .rename_i r' hr';obtain ⟨h1,h2⟩:=LB cs hr'
   grind
  cases h
 |[],n+1,xs,r,h=>by simp [Eo]at h
 |c::cs,n+1,xs,r,h=>by
  simp only [Eo]at h;split at h
  .rename_i r' hr';obtain ⟨h1,h2⟩:=LB cs hr'
   grind
  cases h
def fp {cs:List AV} {n:Nat} {xs r:List AV} (h:Eo n xs cs=some r) (i:Nat):
  r[i]? =if n<=i/\i<n+xs.length then xs[i-n]? else cs[i]? :=by
 obtain ⟨h1,h2⟩:=LB cs h;subst h2;by_cases ha:i<n
 .grind
 grind
def Ov (l:List Value) (n:Nat) (xs:List Value) (hl:n+xs.length<=l.length) (i:Nat):
  (l.take n++xs++l.drop (n+xs.length))[i]? =if n<=i/\i<n+xs.length then xs[i-n]? else l[i]? :=by
 by_cases ha:i<n
 .grind
 grind
def Dc:List AV->Bool
 |[]=>true
 |a::r=>match a.one with
  |true=>Dc r
  |false=>false
def R8:∀{as:List AV} {vs:List Value},Ah E as vs->Dc as=true->∀v∈vs,v.oneCell'=true
 |[],vs,h,_,v,hv=>by grind [Ah]
 |a::as,vs,h,ho,v,hv=>by
  obtain ⟨u,r,rfl,h2,h3⟩:=h;simp only [Dc]at ho;split at ho
  .rename_i hx;cases hv with
   |head=>exact h2.one hx
   |tail _ hm=>exact R8 h3 ho v hm
  cases ho
def ZJ (hr:As B pr E H w) {id:Nat} {cs:List AV} (hk:H.get id=some (.cells cs)) {b o:Nat} (hφ:E.φ id=some (b,o)) {off:Nat} {xs:List AV} {vs:List Value} (hL:Ah E xs vs)
  (hone:Dc xs=true) {cs':List AV} (Db:Eo off xs cs=some cs'):
  ∃w',(storeCells ⟨b,o+off,none⟩ vs 0).run P w=.ok () w'/\As B pr E (H.set id (.cells cs')) w':=by
 obtain ⟨arr,t,g1,g2,g3,g4⟩:=hr.blk hk hφ;obtain ⟨s1,s2⟩:=LB cs Db;have hlen:=hL.length;have hst:=run_storeCells_at P b (o+off) t vs 0 arr w g1 (by omega) (R8 hL hone);refine ⟨_,hst,?_⟩;refine hr.set_cells hk hφ g1 (arr':=(arr.toList.take (o+off)++vs++arr.toList.drop (o+off+vs.length)).toArray) ?_ (cs':=cs') ?_ ?_;simp;omega
 .grind
 .intro i a ha;rw [fp Db]at ha;have hseg:=Ov arr.toList (o+off) vs (by simp;omega) (o+i);rw [List.getElem?_toArray,hseg];split at ha
  .obtain ⟨v,hv,hc⟩:=hL.at _ _ ha
   grind
  grind
def EU (P:Program) (H:AHeap) (t:TypeId) (a v:AV):Option (AV×AHeap):=match P.info? t with
 |some i=>match a with
  | .ptr id off=>match v with
    | .opq=>none
    |v=>match Nat.beq v.cells.length i.size with
     |true=>match Dc v.cells with
      |true=>match H.get id with
       |some (.cells cs)=>match Eo off v.cells cs with
          |some cs'=>some (.tup [],H.set id (.cells cs'))
          |none=>none
       |_=>none
      |false=>none
     |false=>none
  |_=>none
 |none=>none
def eF (hr:As B pr E H w) {t:TypeId} {a x:AV} {v u:Value} (hc:Ac E a v) (hx:Ac E x u) {r:AV×AHeap} (h:EU P H t a x=some r):
  ∃w',(Instr.storeAt t v u).run P w=.ok () w'/\As B pr E r.2 w':=by
 unfold EU at h;split at h
 .rename_i i hi;split at h
  .split at h;cases h
   .rename_i hne;split at h
    .rename_i hlen;split at h
     .rename_i hone;split at h
      .rename_i cs hk;split at h
       .rename_i cs' Db;cases h;obtain ⟨b,o,hφ,rfl⟩:=hc;have hL:=hx.cells hne;obtain ⟨w',h1,h2⟩:=ZJ (P:=P) hr hk hφ hL hone Db;have hsz:u.cells.size=i.size:=by have:=hL.length;simp_all
        simp_all [Instr.storeAt,Instr.sureAddr,storeVar,DK]
       cases h
      cases h
     cases h
    cases h
  cases h
 cases h
def PG (P:Program):List Field->Option (List (Nat×Nat))
 |[]=>some []
 |f::r=>match P.info? f.type with
  |some i=>match PG P r with
   |some l=>some ((f.offset,i.size)::l)
   |none=>none
  |none=>none
def kP:∀{fs:List Field} {l:List (Nat×Nat)},PG P fs=some l->∀w:World,(fs.mapM (m:=Sem) λf=>do pure (f.offset,←sizeOf f.type)).run P w=.ok l w
 |[],l,h,w=>by simp_all [PG]
 |f::r,l,h,w=>by simp only [PG]at h;split at h;rename_i i hi;split at h;rename_i l' hl';cases h;have ih:=kP hl' w;simp only [List.mapM_cons,Sem.run_bind,DK hi,Result.andThen_ok,Sem.run_pure,ih];cases h;cases h
def KD (place:Nat->Option (Nat×Nat)):List AV->List (Nat×AV)->Option (List AV)
 |cells,[]=>some cells
 |cells,(i,v)::rest=>match place i with
  |none=>none
  |some (off,size)=>match v with
   | .opq=>none
   |v=>match Nat.beq v.cells.length size with
    |true=>match Eo off v.cells cells with
     |some cells'=>KD place cells' rest
     |none=>none
    |false=>none
def q8_ (xs:List Value):∀(j off:Nat) (arr:Array Value),off+j+xs.length<=arr.size->
  ((xs.zipIdx j).foldl (λ(cs:Array Value) (p:Value×Nat)=>cs.setIfInBounds (off+p.2) p.1) arr).toList=arr.toList.take (off+j)++xs++arr.toList.drop (off+j+xs.length):=by
 induction xs with
 |nil=>simp_all
 |cons x xs ih=>
  intro j off arr h;simp only [List.length_cons]at h;simp only [List.zipIdx_cons,List.foldl_cons];rw [ih (j+1) off _ (by simp;omega)];apply List.ext_getElem?;intro i;have hs:(arr.setIfInBounds (off+j) x).toList.length=arr.size:=(by simp);have e1:=Ov (arr.setIfInBounds (off+j) x).toList (off+(j+1)) xs (by grind) i;have e2:=Ov arr.toList (off+j) (x::xs) (by omega) i;rw [e1];simp only [List.length_cons]at e2⊢;rw [e2];by_cases c1:i=off+j
  .subst c1;have:off+j<arr.size:=by omega
   grind
  .by_cases c2:off+(j+1)<=i/\i<off+(j+1)+xs.length;rw [Ad c2,Ad (by omega)];rw [show i-(off+j)=(i-(off+(j+1)))+1 by omega];simp
   .rw [Ab c2,Ab (by omega)]
    grind
def TE {place:Nat->Option (Nat×Nat)}:∀{parts:List (Nat×AV)} {vparts:List (Nat×Value)} {cells r:List AV} {arr:Array Value},KD place cells parts=some r->Ah E cells arr.toList->
  (vparts.map (·.1)=parts.map (·.1))->Ah E (parts.map (·.2)) (vparts.map (·.2))->∃arr',Instr.fill place arr vparts=some arr'/\Ah E r arr'.toList
 |[],vparts,cells,r,arr,h,hc,hn,hL=>by cases h;have:vparts=[]:=(by simpa using hn);subst this;exact ⟨arr,rfl,hc⟩
 |(i,a)::rest,vparts,cells,r,arr,h,hc,hn,hL=>by
  cases vparts with
  |nil=>simp at hn
  |cons p vrest=>
   obtain ⟨i',v⟩:=p;simp only [List.map_cons,List.cons.injEq]at hn;obtain ⟨rfl,hn⟩:=hn;simp only [List.map_cons,Ah]at hL;obtain ⟨v',r',he,hcv,hL'⟩:=hL;cases he;simp only [KD]at h;split at h;cases h
   .rename_i off size hp;split at h;cases h
    .rename_i hne;split at h
     .rename_i hlen;split at h
      .rename_i cells' Db;have hcc:=hcv.cells hne;have hvl:=hcc.length;rw [AF hlen]at hvl;obtain ⟨s1,s2⟩:=LB cells Db;have hsz:v.cells.size=size:=(by grind);have hal:arr.size=cells.length:=(by have:=hc.length;grind);rw [AF hlen]at s1;have hfold:(v.cells.zipIdx.foldl (λcs (c,j)=>cs.setIfInBounds (off+j) c) arr).toList=arr.toList.take (off+0)++v.cells.toList++arr.toList.drop (off+0+v.cells.toList.length):=by rw [←q8_ v.cells.toList 0 off arr (by omega)];rw [←Array.foldl_toList];simp
       have:=TE (vparts:=vrest) h (arr:=v.cells.zipIdx.foldl (λcs (c,j)=>cs.setIfInBounds (off+j) c) arr) ?_ hn hL';simp_all [Instr.fill]
       .rw [hfold];refine Ah.of_at ?_ λk x u hx hu=>?_;simp_all
        .rw [fp Db]at hx;rw [Nat.add_zero,Ov _ _ _ (by simp;omega)]at hu;have hll:=hcc.length;split at hx
         .obtain ⟨u',hu',hcu⟩:=hcc.at _ _ hx
          grind
         .obtain ⟨u',hu',hcu⟩:=hc.at _ _ hx
          grind
      cases h
     cases h
def NV:List (Nat×Nat)->Nat->Option (Nat×Nat)
 |[],_=>none
 |a::_,0=>some a
 |_::r,n+1=>NV r n
theorem jK:∀(l:List (Nat×Nat)) (n:Nat),NV l n=l[n]?
 |[],n=>by simp [NV]
 |a::r,0=>rfl
 |a::r,n+1=>by simp [NV,jK r n]
def Vj (P:Program) (t:TypeId) (parts:List (Nat×AV)):Option AV:=match P.info? t with
 |some i=>match i.zero with
  |some z=>match P.underlying t with
   |some (.struct fields)=>match PG P fields.toList with
    |some pl=>match KD (NV pl) (Ch z) parts with
     |some cs=>some (.agg cs)
     |none=>none
    |none=>none
   |some (.array _ elem)=>match P.info? elem with
    |some ie=>match KD (λi=>some (Nat.mul i ie.size,ie.size)) (Ch z) parts with
     |some cs=>some (.agg cs)
     |none=>none
    |none=>none
   |_=>none
  |none=>none
 |none=>none
theorem wP (hr:As B pr E H w) {t:TypeId} {parts:List (Nat×AV)} {vparts:Array (Nat×Value)} (hn:vparts.toList.map (·.1)=parts.map (·.1))
  (hL:Ah E (parts.map (·.2)) (vparts.toList.map (·.2))) {r:AV} (h:Vj P t parts=some r):Gives P B pr E w (Instr.build t vparts) (r,H):=by
 unfold Vj at h;split at h
 .rename_i i hi;split at h
  .rename_i z hz;split at h
   .rename_i fields hd;split at h
    .rename_i pl hpl;split at h
     .rename_i cs hcs;cases h;obtain ⟨arr',h1,h2⟩:=TE hcs (H4 E z) hn hL;have hpl':=kP hpl w;refine Gives.still hr (v:=.agg arr') ?_ (by grind [Ac]);have hm:(fields.mapM (m:=Sem) λf=>do pure (f.offset,←sizeOf f.type)).run P w=.ok pl.toArray w:=by
       grind [Array.mapM_eq_mapM_toList,Sem.run_map,Result.andThen_ok]
      have e:(λx=>pl.toArray[x]?)=NV pl:=(by grind [jK]);simp_all [Instr.build,zeroValue,typeInfo,run_underlying]
     cases h
    cases h
   .rename_i n elem hd;split at h
    .rename_i ie hie;split at h;rename_i cs hcs;cases h;obtain ⟨arr',h1,h2⟩:=TE hcs (H4 E z) hn hL;refine Gives.still hr (v:=.agg arr') ?_ (by grind [Ac]);simp only [Instr.build,Sem.run_bind,zeroValue,typeInfo,run_program,Result.andThen_ok,hi,hz,Sem.run_pure,run_underlying hd,DK hie];simp_all
     cases h
    cases h
   cases h
  cases h
 cases h
def CM (z:List AV):Nat->List AV
 |0=>[]
 |n+1=>z++CM z n
theorem JJ (z:List AV) (n:Nat):(CM z n).length=n*z.length:=by
 induction n<;>grind [CM,Nat.succ_mul]
def UE (z:List AV):∀(n i:Nat),i<n*z.length->(CM z n)[i]? =z[i%z.length]?
 |0,i,h=>by simp at h
 |n+1,i,h=>by simp only [CM];by_cases hi:i<z.length;rw [List.getElem?_append_left hi,Nat.mod_eq_of_lt hi];rw [List.getElem?_append_right (by omega),UE z n (i-z.length) (by rw [Nat.succ_mul]at h;omega)];rw [←Nat.mod_eq_sub_mod (by omega)]
def MX (P:Program) (H:AHeap) (t:TypeId) (len:Nat) (parts:List (Nat×AV)):Option (AV×AHeap):=match P.underlying t with
 |some (.slice e)=>match P.info? e with
  |some i=>match i.zero with
   |some z=>match Nat.beq (Ch z).length i.size with
    |true=>match Nat.ble (Nat.mul len i.size) 16777216 with
     |true=>match KD (λk=>some (Nat.mul k i.size,i.size)) (CM (Ch z) len) parts with
      |some cs=>match H.room with
       |true=>some (.sl H.next 0 len i.size (some len),H.push (.cells cs))
       |false=>none
      |none=>none
     |false=>none
    |false=>none
   |none=>none
  |none=>none
 |_=>none
def ir {t:TypeId} {len:Nat} {parts:List (Nat×AV)} {vparts:Array (Nat×Value)} (hn:vparts.toList.map (·.1)=parts.map (·.1))
  (hL:Ah E (parts.map (·.2)) (vparts.toList.map (·.2))) {r:AV×AHeap} (h:MX P H t len parts=some r):
  ∃(e:TypeId) (sz:Nat) (cs:List AV) (arr:Array Value),H.room=true/\r=(.sl H.next 0 len sz (some len),H.push (.cells cs))/\arr.size=len*sz/\Ah E cs arr.toList/\
   ∀w:World,(Instr.buildSlice t len vparts).run P w=.ok (.slice (some ⟨w.heap.size,0,none⟩) len len) (w.alloc (.cells arr e)):=by
 unfold MX at h;split at h
 .rename_i e hd;split at h
  .rename_i i hi;split at h
   .rename_i z hz;split at h
    .rename_i hzl;split at h
     .rename_i hbig;split at h
      .rename_i cs hcs;split at h
       .rename_i hroom;cases h;have hzl':=AF hzl;have hbig':len*i.size<=16777216:=Nat.le_of_ble_eq_true hbig;have hzs:z.cells.size=i.size:=(by have:=(H4 E z).length;grind);have hbase:Ah E (CM (Ch z) len) (((Array.range (len*i.size)).map (z.cells[· %z.cells.size]!)).toList):=by
         refine Ah.of_at ?_ λk x u hx hu=>?_
         .grind [JJ]
         .have hk:k<len*i.size:=by
            grind
          rw [UE _ _ _ (by grind),hzl']at hx;obtain ⟨u',hu',hcu⟩:=(H4 E z).at _ _ hx
          grind
        obtain ⟨arr',h1,h2⟩:=TE hcs hbase hn hL;have hlen:arr'.size=len*i.size:=by
         have:=h2.length;have hcl:cs.length=(CM (Ch z) len).length:=by
          clear h1 h2 hL hn;revert hcs;generalize CM (Ch z) len=l0;intro hcs
          induction parts generalizing l0 with
          |nil=>grind [KD]
          |cons p rest ih=>
           simp only [KD]at hcs;split at hcs;cases hcs
           .split at hcs
            .split at hcs
             .rename_i cells' Db;obtain ⟨s1,s2⟩:=LB _ Db
              grind
             cases hcs
            cases hcs
         grind [JJ]
        refine ⟨e,i.size,cs,arr',hroom,rfl,hlen,h2,λw=>?_⟩;have hb2:¬(len*i.size>2^24):=(by omega);have e1:(λk=>some (k*i.size,i.size))=(λk=>some (Nat.mul k i.size,i.size)):=rfl;simp only [Instr.buildSlice,Sem.run_bind,run_underlying hd,Result.andThen_ok,DK hi,Ab hb2,Sem.run_pure];by_cases h0:len*i.size=0;rw [Ad h0];have ez:((Array.range (len*i.size)).map ((#[]:Array Value)[· %(#[]:Array Value).size]!))=((Array.range (len*i.size)).map (z.cells[· %z.cells.size]!)):=(by rw [h0];simp);simp only [Sem.run_bind,Sem.run_pure,Result.andThen_ok];rw [ez,e1,h1];simp [newRow];simp_all [zeroValue,typeInfo,newRow]
       cases h
      cases h
     cases h
    cases h
   cases h
  cases h
 cases h
theorem gK_ (hr:As B pr E H w) {t:TypeId} {len:Nat} {parts:List (Nat×AV)} {vparts:Array (Nat×Value)} (hn:vparts.toList.map (·.1)=parts.map (·.1))
  (hL:Ah E (parts.map (·.2)) (vparts.toList.map (·.2))) {r:AV×AHeap} (h:MX P H t len parts=some r):Gives P B pr E w (Instr.buildSlice t len vparts) r:=by
 obtain ⟨e,sz,cs,arr,hroom,rfl,hlen,h2,hrun⟩:=ir hn hL h;have hne:Hz H cs=some (.ptr H.next 0,H.push (.cells cs)):=by simp [Hz,hroom]
 obtain ⟨E',g1,g2,g3,g4,g5⟩:=bJ hr e h2 hne;refine ⟨E',.slice (some ⟨w.heap.size,0,none⟩) len len,w.alloc (.cells arr e),hrun w,g1,g2,?_⟩;exact ⟨w.heap.size,0,arr.size,len,0,g5,g3,rfl,λ_=>rfl,za' _,by grind,λk hk=>by cases hk;rfl⟩
end
end Go.Sx
