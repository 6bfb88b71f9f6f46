/-
  Arguments that are read: what a reading of FD data gives, as values; the same reading behind a call that has laid new blocks alone.
-/
import Derived.Test.YtelnbodnjmldeaaGreatSxX
import Derived.ChangeReads
import Derived.ChangeArms
import Derived.ChangeShapes
import Derived.WideShapes
set_option linter.all false
open Nat renaming eq_of_beq_eq_true→za',lt_irrefl→zb',le_refl→zc',blt_eq→ze',succ_pos→zi',le_of_lt→zj',beq_refl→zk'
open List renaming mem_cons_of_mem→zd',mem_cons_self→zf',drop_drop→zg',take_append_drop→zh'
namespace Go.Sx
open Go.ChangeShapes Go.WideShapes
inductive Fit (P:Program):TypeId->List AV->Prop
 |bool {t:TypeId} (b:Bool) (h:P.underlying t=some .bool):Fit P t [.bool b]
 |int {t:TypeId} {k:IntKind} (n:Int) (h:P.underlying t=some (.int k)) (hw:(Lit.int k n).wf=true):Fit P t [.int k n]
 |flt {t:TypeId} {k:FloatKind} (n:Nat) (h:P.underlying t=some (.float k)) (hw:(Lit.float k n).wf=true):Fit P t [.flt k n]
 |str {t:TypeId} (s:List UInt8) (h:P.underlying t=some .string) (hl:s.length<=maxLen):Fit P t [.str s]
 |struct {t:TypeId} {fs:Array Field} (parts:List (List AV)) (h:P.underlying t=some (.struct fs)) (hl:parts.length=fs.size)
   (hp:∀(i:Nat) (f:Field) (p:List AV),fs[i]? =some f->parts[i]? =some p->Fit P f.type p):Fit P t parts.flatten
 |array {t:TypeId} {n:Nat} {e:TypeId} (parts:List (List AV)) (h:P.underlying t=some (.array n e)) (hl:parts.length=n)
   (hp:∀p,p∈parts->Fit P e p):Fit P t parts.flatten
def T3 (P:Program):List Field->Nat->Nat->Bool
 |[],off,tot=>Nat.beq off tot
 |f::r,off,tot=>Nat.beq f.offset off&&T3 P r (off+P.cellsOf f.type) tot
def KC (P:Program):Nat->TypeId->Bool
 |0,_=>false
 |d+1,t=>match P.underlying t with
  |some .bool=>Nat.beq (P.cellsOf t) 1
  |some (.int _)=>Nat.beq (P.cellsOf t) 1
  |some (.float _)=>Nat.beq (P.cellsOf t) 1
  |some .string=>Nat.beq (P.cellsOf t) 1
  |some (.struct fs)=>T3 P fs.toList 0 (P.cellsOf t)&&fs.toList.all λf=>KC P d f.type
  |some (.array n e)=>Nat.beq (n*P.cellsOf e) (P.cellsOf t)&&KC P d e
  |_=>false
theorem Tx {E:Ag}:∀{a b:List AV} {u v:List Value},AB E a u->AB E b v->AB E (a++b) (u++v)
 |[],b,u,v,h,h'=>by
  grind [AB]
 |x::a,b,u,v,h,h'=>by obtain ⟨y,r,rfl,h1,h2⟩:=h;exact ⟨y,r++v,rfl,h1,Tx h2 h'⟩
theorem okL_join {a b:List AV} (ha:Ak a=true) (hb:Ak b=true):Ak (a++b)=true:=by
 induction a with
 |nil=>exact hb
 |cons x r ih=>simp_all [CA]
section
variable {H:Type} {enc:TypeId×Value->H} {P:Program} {w:World} {base:Nat} {spare:Nat->Bool} {held:Bool}
def ok_ {fuel:Nat} {t:TypeId} {cs:List Value} {x:DataW H×List MemPlace} {k:FloatKind} (ht:P.underlying t=some (.float k)) (h:DataW.trod enc P w base spare held fuel t cs=some x):
  ∃n,cs=[.float k n]/\x=(.lit (.float k n),[])/\(Lit.float k n).wf=true:=by
 cases fuel with
 |zero=>simp [DataW.trod]at h
 |succ n=>
  unfold DataW.trod at h
  grind
def uN {fuel:Nat} {t e:TypeId} {m:Nat} {cs:List Value} {x:DataW H×List MemPlace} (ht:P.underlying t=some (.array m e)) (h:DataW.trod enc P w base spare held fuel t cs=some x):
  ∃(xs:List (DataW H×List MemPlace)) (n:Nat),fuel=n+1/\x=(.agg (xs.map (·.1)),xs.flatMap (·.2))/\cs.length=P.cellsOf t/\xs.length=m/\
   ∀i,i<m->DataW.trod enc P w base spare held n e ((cs.drop (i*P.cellsOf e)).take (P.cellsOf e))=xs[i]? :=by
 cases fuel with
 |zero=>simp [DataW.trod]at h
 |succ n=>
  unfold DataW.trod at h;split at h<;>simp_all
  obtain ⟨hl,xs,hp,hd⟩:=h;exact ⟨xs,hd.symm,by simpa using mapM_some_length hp,λi hi=>mapM_some_get hp i i (by simp [hi])⟩
def Va (P:Program) (t:TypeId) (cs:List Value) (as:List AV):Prop:=Fit P t as/\Ak as=true/\as.length=cs.length/\∀E:Ag,AB E as cs
def cC {tot:Nat} {cs:List Value} (hcs:cs.length=tot):∀(fs:List Field) (off:Nat),T3 P fs off tot=true->(∀f:Field,f∈fs->∃as,Va P f.type ((cs.drop f.offset).take (P.cellsOf f.type)) as/\as.length=P.cellsOf f.type)->
  ∃parts:List (List AV),parts.length=fs.length/\(∀(i:Nat) (f:Field) (p:List AV),fs[i]? =some f->parts[i]? =some p->Fit P f.type p)/\Ak parts.flatten=true/\parts.flatten.length=cs.length-off/\off<=cs.length/\∀E:Ag,AB E parts.flatten (cs.drop off)
 |[],off,h,_=>by have h:off=tot:=za' h;refine ⟨[],rfl,(λi f p h=>by simp at h),rfl,by simp;omega,by omega,λE=>?_⟩;rw [h,←hcs,List.drop_length];rfl
 |f::r,off,h,hf=>by
  simp only [T3,Bool.and_eq_true]at h;obtain ⟨h1,h2⟩:=h;have h1:f.offset=off:=za' h1;obtain ⟨as,⟨g1,g2,g3,g4⟩,g5⟩:=hf f (zf' ..);obtain ⟨parts,k1,k2,k3,k4,k5,k6⟩:=cC hcs r (off+P.cellsOf f.type) h2 λf hm=>hf f (zd' _ hm);refine ⟨as::parts,by simp [k1],λi f' p h h'=>?_,?_,?_,by omega,λE=>?_⟩
  .grind
  all_goals grind [okL_join,zg',zh',Tx]
def nE {sz:Nat} {e:TypeId} {cs:List Value}:∀(n off:Nat),cs.length=off+n*sz->(∀i,i<n->∃as,Va P e ((cs.drop (off+i*sz)).take sz) as)->
  ∃parts:List (List AV),parts.length=n/\(∀p,p∈parts->Fit P e p)/\Ak parts.flatten=true/\parts.flatten.length=cs.length-off/\∀E:Ag,AB E parts.flatten (cs.drop off)
 |0,off,h,_=>by refine ⟨[],rfl,(λp h=>by cases h),rfl,by simp;omega,λE=>?_⟩;rw [show off=cs.length by omega,List.drop_length];rfl
 |n+1,off,h,hf=>by
  have hm:(n+1)*sz=sz+n*sz:=(by grind);obtain ⟨as,g1,g2,g3,g4⟩:=hf 0 (zi' n);obtain ⟨parts,k1,k2,k3,k4,k5⟩:=nE (sz:=sz) (e:=e) (cs:=cs) n (off+sz) (by omega) λi hi=>by
   grind
  refine ⟨as::parts,by simp [k1],λp h=>?_,?_,?_,λE=>?_⟩;all_goals grind [okL_join,zg',zh',Tx]
def QB:∀(d fuel:Nat) (t:TypeId) (cs:List Value) (x:DataW H×List MemPlace),KC P d t=true->DataW.trod enc P w base spare held fuel t cs=some x->x.2=[]/\cs.length=P.cellsOf t/\∃as,Va P t cs as
 |0,fuel,t,cs,x,h,_=>by simp [KC]at h
 |d+1,fuel,t,cs,x,h,hx=>by
  unfold KC at h;split at h;rename_i ht;obtain ⟨b,rfl,rfl⟩:=DataW.trod_bool ht hx;exact ⟨rfl,by simp_all,[.bool b],.bool b ht,rfl,rfl,λE=>⟨_,_,rfl,rfl,rfl⟩⟩;rename_i k ht;obtain ⟨n,rfl,rfl,hw⟩:=DataW.trod_int ht hx;exact ⟨rfl,by simp_all,[.int k n],.int n ht hw,rfl,rfl,λE=>⟨_,_,rfl,rfl,rfl⟩⟩;rename_i k ht;obtain ⟨n,rfl,rfl,hw⟩:=ok_ ht hx;exact ⟨rfl,by simp_all,[.flt k n],.flt n ht hw,rfl,rfl,λE=>⟨_,_,rfl,rfl,rfl⟩⟩;rename_i ht;obtain ⟨s,rfl,rfl,hs⟩:=DataW.trod_string ht hx;refine ⟨rfl,by simp_all,[.str s.data.toList],.str _ ht (by simpa using hs),rfl,rfl,λE=>⟨_,_,rfl,?_,rfl⟩⟩;rfl
  .rename_i fs ht;simp only [Bool.and_eq_true,List.all_eq_true]at h;obtain ⟨h1,h2⟩:=h;obtain ⟨xs,n,rfl,rfl,hl,hxl,hel⟩:=DataW.trod_struct ht hx;have hat:∀(i:Nat) (f:Field),fs[i]? =some f->∃y,xs[i]? =some y/\DataW.trod enc P w base spare held n f.type ((cs.drop f.offset).take (P.cellsOf f.type))=some y:=λi f hf=>by
    grind
   have hfield:∀f:Field,f∈fs.toList->∃y,DataW.trod enc P w base spare held n f.type ((cs.drop f.offset).take (P.cellsOf f.type))=some y:=λf hm=>by
    grind [List.getElem?_of_mem]
   obtain ⟨parts,k1,k2,k3,k4,_,k5⟩:=cC (P:=P) hl fs.toList 0 h1 λf hm=>by
    obtain ⟨y,hy⟩:=hfield f hm;obtain ⟨_,q1,as,q2⟩:=QB d n f.type _ y (h2 f hm) hy
    grind [Va]
   refine ⟨?_,hl,parts.flatten,.struct parts ht (by omega) (λi f p h h'=>k2 i f p (by simpa using h) h'),k3,by omega,λE=>by grind⟩;rw [List.flatMap_eq_nil_iff];intro y hy;obtain ⟨i,hi⟩:=List.getElem?_of_mem hy;have hlt:i<fs.size:=(by grind);obtain ⟨y',e1,e2⟩:=hat i fs[i] (Array.getElem?_eq_getElem hlt);rw [hi]at e1;cases e1;exact (QB d n _ _ _ (h2 _ (by simp)) e2).1
  .rename_i m e ht;simp only [Bool.and_eq_true]at h;obtain ⟨h1,h2⟩:=h;have h1:=za' h1;obtain ⟨xs,n,rfl,rfl,hl,hxl,hel⟩:=uN ht hx;obtain ⟨parts,k1,k2,k3,k4,k5⟩:=nE (P:=P) (e:=e) (sz:=P.cellsOf e) (cs:=cs) m 0 (by omega) λi hi=>by
    have:=hel i hi;rw [List.getElem?_eq_getElem (by omega)]at this;obtain ⟨_,_,as,q⟩:=QB d n e _ _ h2 this
    grind
   refine ⟨?_,hl,parts.flatten,.array parts ht k1 k2,k3,by omega,λE=>by grind⟩;rw [List.flatMap_eq_nil_iff];intro y hy;obtain ⟨i,hi⟩:=List.getElem?_of_mem hy;have hlt:i<m:=(by grind);have:=hel i hlt;rw [hi]at this;exact (QB d n e _ _ h2 this).1
  cases h
def G2 (w:World) (ps:List MemPlace) (b o:Nat):Option Value:=if MemPlace.cell b o∈ps then w.cell? ⟨b,o,none⟩else none
def sC (w:World) (ps:List MemPlace):∀b o v,G2 w ps b o=some v->w.cell? ⟨b,o,none⟩=some v:=by simp [G2]
def nI {e:TypeId} {a:Addr} {ha:a.spot=none} {d n:Nat} {ps:List MemPlace} (hf:KC P d e=true):∀(len k:Nat),(∀i,i<len->∃cs y,w.cells? base (a.add ((k+i)*P.cellsOf e)) (P.cellsOf e)=some cs/\DataW.trod enc P w base spare held n e cs=some y)->
  (∀j,j<len*P.cellsOf e->MemPlace.cell a.block (a.off+(k*P.cellsOf e+j))∈ps)->
  ∃(rows:List (List AV)) (vs:List Value),rows.length=len/\(∀r,r∈rows->Fit P e r)/\Ak rows.flatten=true/\vs.length=len*P.cellsOf e/\(∀E:Ag,AB E rows.flatten vs)/\
   ∀j u,vs[j]? =some u->G2 w ps a.block (a.off+k*P.cellsOf e+j)=some u
 |0,k,_,_=>⟨[],[],rfl,(λr h=>by cases h),rfl,by simp,λE=>(rfl:([]:List Value)=[]),λj u h=>(by simp at h)⟩
 |len+1,k,h,hp=>by
  obtain ⟨cs,y,hc,hy⟩:=h 0 (zi' _);obtain ⟨_,hl,as,q1,q2,q3,q4⟩:=QB d n e cs y hf hy;obtain ⟨rows,vs,k1,k2,k3,k4,k5,k6⟩:=nI (ha:=ha) hf len (k+1) (λi hi=>by
   have:=h (i+1) (by omega);rw [show k+(i+1)=k+1+i by omega]at this;exact this) (λj hj=>by
   have:=hp (P.cellsOf e+j) (by grind);rw [show k*P.cellsOf e+(P.cellsOf e+j)=(k+1)*P.cellsOf e+j by grind]at this;exact this)
  refine ⟨as::rows,cs++vs,by simp [k1],λr hr=>?_,?_,?_,λE=>?_,λj u hu=>?_⟩
  .grind
  .grind [okL_join]
  .grind
  .grind [Tx]
  .by_cases hj:j<cs.length
   .obtain ⟨_,hl2,hat⟩:=World.cells?_some hc;have hm:=hp j (by grind);unfold G2;obtain ⟨ab,ao,as'⟩:=a
    grind [Addr.add]
   grind
def tQ {t e:TypeId} {d fuel:Nat} {v:Value} {x:DataW H×List MemPlace} {ps:List MemPlace} (ht:P.underlying t=some (.slice e)) (hf:KC P d e=true) (hok:∀a l c,v=.slice (some a) l c->a.spot=none)
  (hx:DataW.trod enc P w base (λ_=>true) held fuel t [v]=some x) (hps:∀p,p∈x.2->p∈ps):
  v=.slice none 0 0\/∃rows:List (List AV),(∀r,r∈rows->Fit P e r)/\rows.length<=maxLen/\Ak rows.flatten=true/\Ac (JF (G2 w ps)) (.vsl rows.length (P.cellsOf e) rows.flatten) v:=by
 rcases DataW.trod_slice ht hx with ⟨h,_⟩|⟨a,len,cap,elems,rest,n,rfl,hv,rfl,_,hl,hm,hel,hat,hsp,_⟩
 .grind
 .cases hv;have ha:=hok a len cap rfl;obtain ⟨rows,vs,k1,k2,k3,k4,k5,k6⟩:=nI (enc:=enc) (base:=base) (spare:=λ_=>true) (held:=held) (w:=w) (P:=P) (ha:=ha) (a:=a) (ps:=ps) (n:=n) hf len 0 (λi hi=>by
   have:=hat i hi;rw [List.getElem?_eq_getElem (by omega)]at this;obtain ⟨cs',h1,h2⟩:=Option.bind_eq_some_iff.1 this
   grind) (λj hj=>by
   refine hps _ ?_;simp only [DU];left;refine MemPlace.mem_row.2 ⟨j,?_,by simp⟩
   grind)
  refine .inr ⟨rows,k2,by omega,k3,?_⟩;obtain ⟨ab,ao,as'⟩:=a;subst ha;refine ⟨ab,ao,vs,cap,by rw [k1],by omega,(okL_con k3 (k5 _)),λj u hu=>?_⟩;have:=k6 j u hu;rw [Nat.zero_mul,Nat.add_zero]at this;exact this
where
 okL_con {E:Ag}:∀{as:List AV} {vs:List Value},Ak as=true->AB E as vs->Ah E as vs
  |[],vs,_,h=>h
  |a::as,vs,h,hc=>by obtain ⟨v,r,rfl,h1,h2⟩:=hc;rw [CA]at h;exact ⟨v,r,rfl,h1.con,okL_con (Au h).2 h2⟩
end
section
variable {P:Program} {t:TypeId} {r:List AV}
def xT {k:IntKind} (ht:P.underlying t=some (.int k)) (h:Fit P t r):∃n,r=[.int k n]/\(Lit.int k n).wf=true:=by cases h<;>grind
end
section
variable {H:Type} {enc:TypeId×Value->H} {P:Program} {W:World}
def v8 {t e:TypeId} {d base:Nat} {v:Value} {dd:DataW H} {p ps:List MemPlace} (ht:P.underlying t=some (.slice e)) (hf:KC P d e=true) (hok:Value.okWide P W .any base t v)
  (h:DataW.Trod enc P W 0 (λ_=>true) true t v dd p) (hps:∀q,q∈p->q∈ps):
  v=.slice none 0 0\/∃rows:List (List AV),(∀r,r∈rows->Fit P e r)/\rows.length<=maxLen/\Ak rows.flatten=true/\Ac (JF (G2 W ps)) (.vsl rows.length (P.cellsOf e) rows.flatten) v:=by
 obtain ⟨a,len,cap,rfl⟩:=okWide_slice ht hok;obtain ⟨n,hn⟩:=h;refine tQ (x:=(dd,p)) ht hf (λa' l c e=>?_) hn hps;cases e;simp only [Value.okWide,ht,Cell.okWide,Cell.ok]at hok;exact hok.2.2.2.1
end
def GP (P:Program):Nat->TypeId->Bool
 |0,_=>false
 |d+1,t=>match P.underlying t with
  |some .bool=>true
  |some (.int _)=>true
  |some (.float _)=>true
  |some .string=>true
  |some (.slice e)=>Nat.blt 0 (P.cellsOf e)&&GP P d e
  |some (.struct fs)=>fs.toList.all λf=>GP P d f.type
  |some (.array _ e)=>GP P d e
  |_=>false
section
variable {H:Type} {enc:TypeId×Value->H} {P:Program} {w:World} {base:Nat} {held:Bool} {sp:Nat->Bool}
theorem tL {d:Nat} {t:TypeId} (hw:GP P (d+1) t=true) {r r':TypeId->List Value->Option (DataW H×List MemPlace)}
  (hr:∀t cs x,GP P d t=true->r t cs=some x->(∀p∈x.2,sp p.block=true)->r' t cs=some x) {cs:List Value} {x:DataW H×List MemPlace}
  (h:DataW.trodStep enc P w base (λ_=>true) held r t cs=some x) (hs:∀p∈x.2,sp p.block=true):DataW.trodStep enc P w base sp held r' t cs=some x:=by
 unfold DataW.trodStep at h⊢;split at h
 case h_8 e a len cap ht=>
  unfold GP at hw;rw [ht]at hw;simp only [Bool.and_eq_true]at hw;obtain ⟨hz,hwe⟩:=hw;have hz:0<P.cellsOf e:=(by simp_all);split at h
  .rename_i hc;rw [Ad hc];simp only [Option.map_eq_some_iff,Option.bind_eq_some_iff]at h⊢;obtain ⟨elems,he,rest,hrest,rfl⟩:=h;have one:∀(i:Nat) (y:DataW H×List MemPlace),y∈elems++rest->
     (w.cells? base (a.add (i*P.cellsOf e)) (P.cellsOf e)).bind (r e)=some y->(w.cells? base (a.add (i*P.cellsOf e)) (P.cellsOf e)).bind (r' e)=some y:=by
    grind [Option.bind_eq_some_iff]
   refine ⟨elems,mapM_carry he (λi y hi hy=>one i y (by simp [hy])),rest,?_,rfl⟩;have hrl:rest.length=cap-len:=(by simpa using mapM_some_length hrest);cases hrl0:cap-len with
   |zero=>
    grind
   |succ m=>
    have hsa:sp a.block=true:=by refine hs (.cell a.block (a.off+0)) ?_;simp only [DU];left;refine MemPlace.mem_row.2 ⟨0,Nat.mul_pos (by omega) hz,rfl⟩
    grind [mapM_carry]
  cases h
 case h_9 fs _ _ ht=>
  unfold GP at hw;rw [ht]at hw;simp only [List.all_eq_true]at hw;split at h;rename_i hc;rw [Ad hc];simp only [Option.map_eq_some_iff]at h⊢;obtain ⟨xs,hx,rfl⟩:=h;exact ⟨xs,mapM_carry hx (λf y hf hy hv=>hr _ _ _ (hw f hf) hv (λp hp=>hs p (List.mem_flatMap.2 ⟨y,hy,hp⟩))),rfl⟩;cases h
 case h_10 n e _ _ ht=>
  unfold GP at hw;rw [ht]at hw;split at h;rename_i hc;rw [Ad hc];simp only [Option.map_eq_some_iff]at h⊢;obtain ⟨xs,hx,rfl⟩:=h;exact ⟨xs,mapM_carry hx (λf y _ hy hv=>hr _ _ _ hw hv (λp hp=>hs p (List.mem_flatMap.2 ⟨y,hy,hp⟩))),rfl⟩;cases h
 all_goals grind [GP]
theorem vg:∀(n d:Nat) (t:TypeId) (cs:List Value) (x:DataW H×List MemPlace),GP P d t=true->
  DataW.trod enc P w base (λ_=>true) held n t cs=some x->(∀p∈x.2,sp p.block=true)->DataW.trod enc P w base sp held n t cs=some x:=by
 intro n
 induction n with
 |zero=>simp [DataW.trod]
 |succ n ih=>intro d t cs x hw h hs;cases d<;>grind [GP,DataW.trod_step,tL]
theorem lw_ {W W':World} (h:GrownB W W') {p:MemPlace} (hp:p.block<W.heap.size):W.sameAt W' p:=by
 obtain ⟨⟨_,_,hk⟩,_,hs⟩:=h;have hb:=hk p.block hp;cases p with
 |cell b off=>
  simp only [MemPlace.block]at hp hb;show W'.cell? ⟨b,off,none⟩=W.cell? ⟨b,off,none⟩;unfold World.cell?
  grind
 |map b=>
  simp only [MemPlace.block]at hp hb;show W'.heap[b]? =W.heap[b]?;obtain ⟨o1,h1⟩:∃o,W.heap[b]? =some o:=⟨W.heap[b],Array.getElem?_eq_getElem hp⟩;obtain ⟨o2,h2⟩:∃o,W'.heap[b]? =some o:=⟨W'.heap[b]'(by omega),Array.getElem?_eq_getElem (by omega)⟩;rw [h1,h2]at hb;rw [h1,h2];cases o1 with
  |cells c t fr=>
   cases o2 with
   |cells c' t' fr'=>obtain ⟨rfl,rfl,_,hc⟩:=hb;have:c'=c:=Array.ext_getElem? λj=>hc j (λh=>h);rw [this]
   |_=>cases hb
  |map es cl=>
   grind
  |_=>omega
def trodAll_again {d:Nat} {W W':World} (hg:GrownB W W'):∀{ts:List TypeId} {vs:List Value} {ds:List (DataW H)} {ps:List MemPlace},(ts.all λt=>GP P d t)=true->
  DataW.TrodAll enc P W 0 (λ_=>true) held ts vs ds ps->(∀p∈ps,p.block<W.heap.size)->(∀p∈ps,sp p.block=true)->DataW.TrodAll enc P W' 0 sp held ts vs ds ps
 |[],[],[],_,_,h,_,_=>h
 |t::ts,v::vs,dd::ds,_,hw,⟨p,q,⟨n,h1⟩,h2,rfl⟩,hlt,hsp=>by
  simp only [List.all_cons,Bool.and_eq_true]at hw;refine ⟨p,q,⟨n,?_⟩,trodAll_again hg hw.2 h2 (λx hx=>hlt x (by simp [hx])) (λx hx=>hsp x (by simp [hx])),rfl⟩
  grind [DataW.trod_carry,vg,lw_]
end
variable [Gl]
def uZ {P:Program} {f:FuncId} {ag:List AV} {v:AV} (hp:HL P f ag v) (w:World) (ps:List MemPlace) {vs:List Value} (hc:Ah (JF (G2 w ps)) ag vs)
  (hg:BQ (JF (G2 w ps))):Calls P f ⟨vs⟩ w λe w'=>(∃E u,e=.returned u/\Ac E v u)/\GrownB w w':=by
 refine Calls.mono (hp H0 w (λb=>b<w.heap.size) (JF (G2 w ps)) w vs hg (vn_ w _ (sC w ps)) hc) λe w' he=>?_;obtain ⟨E',_,u,rfl,h1,h2⟩:=he;exact ⟨⟨E',u,rfl,h1⟩,wA h2.size (λb hb=>(h2.prot b hb).2) h2.os h2.output⟩
end Go.Sx
namespace Go.Sx
theorem MZ (s:Nat->Option AV):∀a b:List AV,An s (a++b)=An s a++An s b
 |[],b=>rfl
 |x::r,b=>by simp [An,MZ]
theorem IM (s:Nat->Option AV):∀l:List AV,(An s l).length=l.length
 |[]=>rfl
 |a::r=>by simp [An,IM s r]
theorem Lq (s:Nat->Option AV):∀(l:List AV) (i:Nat),(An s l)[i]? =(l[i]?).map (Ar s)
 |[],i=>by simp [An]
 |b::r,0=>by simp [An]
 |b::r,i+1=>by simpa [An]using Lq s r i
theorem ml:∀{l:List AV},Bm l=true->∀(i:Nat) (a:AV),l[i]? =some a->Bh a=true
 |[],_,i,a,h=>by simp at h
 |b::r,hs,i,a,h=>by
  simp only [Bm]at hs;cases hb:Bh b with
  |true=>
   rw [hb]at hs;cases i with
   |zero=>simp at h;subst h;exact hb
   |succ i=>exact ml hs i a (by simpa using h)
  |false=>rw [hb]at hs;cases hs
def Xm:∀{a b:List AV},Bm a=true->Bm b=true->Bm (a++b)=true
 |[],b,_,h=>h
 |x::r,b,h,h'=>by
  simp only [Bm]at h;cases hb:Bh x with
  |true=>rw [hb]at h;simp only [Bg,Bm,hb];exact Xm h h'
  |false=>rw [hb]at h;cases h
mutual
theorem EP:∀{l:List AV},Ak l=true->Bm l=true
 |[],_=>rfl
 |a::r,h=>by rw [CA]at h;obtain ⟨h1,h2⟩:=Au h;simp only [Bm,wS a h1];exact EP h2
theorem wS:∀a:AV,okC a=true->Bh a=true
 | .opq,h=>by simp [okC]at h
 | .bool _,_=>rfl
 | .int _ _,_=>rfl
 | .flt _ _,_=>rfl
 | .nan _,_=>rfl
 | .str _,_=>rfl
 | .nptr,_=>rfl
 | .ptr _ _,h=>by simp [okC]at h
 | .vptr cs,h=>by simp only [okC]at h;simp only [Bh];exact EP h
 | .nsl,_=>rfl
 | .sl ..,h=>by simp [okC]at h
 | .vsl _ _ cs,h=>by simp only [okC]at h;simp only [Bh];exact EP h
 | .nmap,_=>rfl
 | .map _,h=>by simp [okC]at h
 | .nfn,_=>rfl
 | .fn _ cs,h=>by simp only [okC]at h;simp only [Bh];exact EP h
 | .nif,_=>rfl
 | .iface _ a,h=>by simp only [okC]at h;simp only [Bh];exact nf a h
 | .agg _,h=>by simp [okC]at h
 | .tup _,h=>by simp [okC]at h
 | .sym _,h=>by rfl
 | .slx ..,h=>by simp [okC]at h
 | .ptx ..,h=>by simp [okC]at h
theorem nf:∀a:AV,okI a=true->Bh a=true
 | .opq,h=>by simp [okI]at h
 | .bool _,_=>rfl
 | .int _ _,_=>rfl
 | .flt _ _,_=>rfl
 | .nan _,_=>rfl
 | .str _,_=>rfl
 | .nptr,_=>rfl
 | .ptr _ _,h=>by simp [okI]at h
 | .vptr cs,h=>by simp only [okI]at h;simp only [Bh];exact EP h
 | .nsl,_=>rfl
 | .sl ..,h=>by simp [okI]at h
 | .vsl _ _ cs,h=>by simp only [okI]at h;simp only [Bh];exact EP h
 | .nmap,_=>rfl
 | .map _,h=>by simp [okI]at h
 | .nfn,_=>rfl
 | .fn _ cs,h=>by simp only [okI]at h;simp only [Bh];exact EP h
 | .nif,_=>rfl
 | .iface _ a,h=>by simp only [okI]at h;simp only [Bh];exact nf a h
 | .agg cs,h=>by simp only [okI]at h;simp only [Bh];exact EP h
 | .tup _,h=>by simp [okI]at h
 | .sym _,h=>by rfl
 | .slx ..,h=>by simp [okI]at h
 | .ptx ..,h=>by simp [okI]at h
end
mutual
theorem Vp {E:Ag} {s:Nat->Option AV} (hs:∀i x,E.sy i=some x->s i=some x):∀{a:AV} {v:Value},Ac E a v->Ar s a=Ar E.sy a
 | .opq,_,_=>rfl
 | .bool _,_,_=>rfl
 | .int _ _,_,_=>rfl
 | .flt _ _,_,_=>rfl
 | .nan _,_,_=>rfl
 | .str _,_,_=>rfl
 | .nptr,_,_=>rfl
 | .ptr _ _,_,_=>rfl
 | .vptr cs,v,h=>by simp only [Ac]at h;obtain ⟨_,_,_,_,h2,_⟩:=h;simp only [Ar,KG hs h2]
 | .nsl,_,_=>rfl
 | .sl ..,_,_=>rfl
 | .vsl _ _ cs,v,h=>by simp only [Ac]at h;obtain ⟨_,_,_,_,_,_,h2,_⟩:=h;simp only [Ar,KG hs h2]
 | .nmap,_,_=>rfl
 | .map _,_,_=>rfl
 | .nfn,_,_=>rfl
 | .fn _ cs,v,h=>by simp only [Ac]at h;obtain ⟨_,_,h2⟩:=h;simp only [Ar,KG hs h2]
 | .nif,_,_=>rfl
 | .iface _ a,v,h=>by simp only [Ac]at h;obtain ⟨_,_,h2⟩:=h;simp only [Ar,Vp hs h2]
 | .agg cs,v,h=>by simp only [Ac]at h;obtain ⟨_,_,h2⟩:=h;simp only [Ar,KG hs h2]
 | .tup cs,v,h=>by simp only [Ac]at h;obtain ⟨_,_,h2⟩:=h;simp only [Ar,KG hs h2]
 | .sym i,v,h=>by grind [Ac,Ar]
 | .slx ..,_,_=>rfl
 | .ptx ..,_,_=>rfl
theorem KG {E:Ag} {s:Nat->Option AV} (hs:∀i x,E.sy i=some x->s i=some x):∀{l:List AV} {vs:List Value},Ah E l vs->An s l=An E.sy l
 |[],_,_=>rfl
 |a::r,vs,h=>by simp only [Ah]at h;obtain ⟨_,_,_,h1,h2⟩:=h;simp only [An,Vp hs h1,KG hs h2]
end
section
variable {P:Program} {B:World} {pr:Nat->Prop} {E:Ag} {H:AHeap} {w:World}
def As.expand (h:As B pr E H w) {id i len sz:Nat} {cs:List AV} (hk:H.get id=some (.syl i)) (hi:E.sy i=some (.vsl len sz cs)):As B pr E (H.set id (.cells cs)) w/\cs.length=len*sz:=by
 have hlt:=AHeap.get_lt hk;obtain ⟨own,g1,g2⟩:=h.own;have h0:∃b o,E.φ id=some (b,o)/\own b=some id/\BlkAt E w b o (.cells cs)/\cs.length=len*sz:=by
  obtain ⟨_,hv⟩|⟨b,o,h1,h2,len',sz',cs',e,hlen,arr,t,h3,h4,h5,h6⟩:=g1 id _ hk
  .have hv:E.sy i=some .nsl:=hv
   grind
  rw [hi]at e;cases e;refine ⟨b,o,h1,h2,⟨arr,t,h3,h4,h5,λj a ha=>?_⟩,hlen⟩;obtain ⟨v,q1,_,q2⟩:=h6 j a ha;exact ⟨v,q1,q2.con⟩
 obtain ⟨b,o,e1,e2,e3,e4⟩:=h0;refine ⟨{ own:=⟨own,λid' k' hk'=>?_,g2⟩,imm:=h.imm,ib:=h.ib,fresh:=h.fresh,resv:=h.resv,vds:=h.vds,szs:=h.szs,prot:=h.prot,size:=h.size,os:=h.os,output:=h.output },e4⟩;by_cases e:id=id';subst e;rw [AHeap.get_set_same H hlt]at hk';cases hk';exact .inr ⟨b,o,e1,e2,e3⟩
 grind [AHeap.get_set_ne]
def As.collapse (h:As B pr E H w) {id n len sz:Nat} {cells:List AV} (hk:H.get id=some (.cells cells)) (hs:Bm cells=true) (hn:E.sy n=some (.vsl len sz (An E.sy cells))) (hok:Ak (An E.sy cells)=true)
  (hlen:cells.length=len*sz):As B pr E (H.set id (.syl n)) w:=by
 have hlt:=AHeap.get_lt hk;obtain ⟨own,g1,g2⟩:=h.own;refine { own:=⟨own,λid' k' hk'=>?_,g2⟩,imm:=h.imm,ib:=h.ib,fresh:=h.fresh,resv:=h.resv,vds:=h.vds,szs:=h.szs,prot:=h.prot,size:=h.size,os:=h.os,output:=h.output };by_cases e:id=id'
 .subst e;rw [AHeap.get_set_same H hlt]at hk';cases hk';obtain ⟨_,hv⟩|⟨b,o,h1,h2,arr,t,h3,h4,h5,h6⟩:=g1 id _ hk;exact hv.elim
  .refine .inr ⟨b,o,h1,h2,len,sz,_,hn,by grind [IM],arr,t,h3,h4,by rw [IM];exact h5,λj a ha=>?_⟩
   grind [Lq,Fx,JN,CZ,ml]
 grind [AHeap.get_set_ne]
def Ag.void (E:Ag) (id:Nat):Ag:={ E with res:=λi=>E.res i\/i=id,vd:=λi=>E.vd i\/i=id }
def Ag.sub_void (E:Ag) (id:Nat):E.sub (E.void id):=⟨λ_ _ h=>h,λ_ _ h=>h,λ_ _ _ h=>h,rfl,rfl⟩
def As.newVoid (h:As B pr E H w) (hr:H.room=true) {n:Nat} (hn:E.sy n=some .nsl):As B pr (E.void H.next) (H.push (.syl n)) w:=by obtain ⟨h1,h2,h3⟩:=As.room hr;obtain ⟨own,g1,g2⟩:=h.own;refine { own:=⟨own,λid k hk=>?_,g2⟩,imm:=h.imm,ib:=h.ib,fresh:=λid e1 e2=>h.fresh id (zj' e1) e2,resv:=λid hi=>?_,vds:=λid hv=>hv.imp (h.vds id) (λe=>e),szs:=h.szs,prot:=h.prot,size:=h.size,os:=h.os,output:=h.output };by_cases e:H.next=id;subst e;rw [AHeap.get_push_same H h2]at hk;cases hk;exact .inl ⟨.inr rfl,hn⟩;rw [AHeap.get_push_ne H h2 e]at hk;exact (g1 id k hk).imp (λ_ h=>h) (λh=>⟨.inl h.1,h.2⟩) λb o _ q1 q2=>⟨q1,q2.sub (Ag.sub_void E H.next) rfl⟩;rcases hi with hi|rfl;obtain ⟨q1,q2⟩:=h.resv id hi;exact ⟨q1,λhx=>q2 ⟨zj' hx.1,hx.2⟩⟩;exact ⟨h.fresh _ (zc' _) h1,λhx=>zb' _ hx.1⟩
def As.same (h:As B pr E H w) {H':AHeap} (hg:∀id k,H'.get id=some k->H.get id=some k) (hn:H'.next=H.next) (hh:H'.hi=H.hi):As B pr E H' w:=
 h.forget hg (by omega) (by omega)
def WW:∀{a b:List AV},Ak (a++b)=true->Ak a=true/\Ak b=true
 |[],b,h=>⟨rfl,h⟩
 |x::r,b,h=>by rw [List.cons_append,CA]at h;obtain ⟨h1,h2⟩:=Au h;obtain ⟨h3,h4⟩:=WW h2;exact ⟨by rw [CA,h1,h3];rfl,h4⟩
def JD {E':Ag} {H0:AHeap} {X:List AV} {len sz n:Nat} {v:Value} (hle:E.sub E') (hrel:As B pr E' (H0.push (.cells X)) w) (hcon:Ac E' (.sl H0.next 0 len sz none) v) (hroom:H0.next<Bb)
  (hX:Bm X=true) (hn:E.sy n=some (.vsl len sz (An E.sy X))) (hok:Ak (An E.sy X)=true) (hlen:X.length=len*sz):As B pr E' (H0.push (.syl n)) w/\Ac E' (.slx H0.next sz n) v:=by
 have hsy:E'.sy=E.sy:=hle.2.2.2.1;have hn':E'.sy n=some (.vsl len sz (An E'.sy X)):=by grind
 constructor
 .have:=hrel.collapse (AHeap.get_push_same H0 hroom _) hX hn' (by grind) hlen;refine this.same (λid k hk=>?_) rfl rfl
  grind [AHeap.get_push_same,AHeap.get_set_same,AHeap.get_push_ne,AHeap.get_set_ne]
 .simp only [Ac]at hcon⊢
  grind
def mY (hr:As B pr E H w) {id sz i n m:Nat} {xa:AV} {l:List AV} {t tx ty e:TypeId} {info:TypeInfo} {z:Value} {dx:TypeDesc} {sv xv:Value} {a r:AV}
  (ht:P.underlying t=some (.slice e)) (hi:P.info? e=some info) (hz:info.zero=some z) (htx:P.underlying tx=some dx) (hnot:JX dx=true) (hzl:Nat.beq (Bs (Ch z)) info.size=true) (hsz:info.size=sz)
  (hs:Ac E (.slx id sz i) sv) (hx:Ac E xa xv) (hk:H.get id=some (.syl i)) (hroom:H.room=true)
  (hm:C4 xa=some m) (hl:∀H':AHeap,(∀j,j≠id->H'.get j=H.get j)->Cx H' xa m sz=some l) (hone:Dc l=true) (hlok:Bm l=true)
  (hsi:E.sy i=some a) (hrr:El sz info.bytes a m (An E.sy l)=some r) (hrok:okC r=true) (hn:E.sy n=some r):
  ∃E' v w',(Builtin.append_ #[t,tx] ty #[sv,xv]).run P w=.ok v w'/\E.sub E'/\E'.bim=E.bim/\((∀id,E.res id->E.vd id)->∀id,E'.res id->E'.vd id)/\As B pr E' ((H.erase id).push (.syl n)) w'/\Ac E' (.slx H.next sz n) v/\(0<m->E.le E'):=by
 subst hsz;obtain ⟨r1,r2,r3⟩:=As.room hroom;have hid:=AHeap.get_lt hk;unfold El at hrr;split at hrr;cases hrr;rename_i hlen;have hlen:(An E.sy l).length=m*info.size:=AU hlen;rw [IM]at hlen;have hlb:Nat.beq (Bs l) (Nat.mul m info.size)=true:=by grind [BW,zk']
 have hsp:=hs;obtain ⟨a',e1,hsp⟩:=hsp;rw [hsi]at e1;cases e1;have heg:∀j,j≠id->(H.erase id).get j=H.get j:=λj hj=>AHeap.get_erase_ne H (λe=>hj e.symm);have hroomE:(H.erase id).room=true:=hroom;rcases hsp with ⟨rfl,hsv⟩|⟨len,cs,rfl,hsl⟩
 ·
  have hc0:Ac E .nsl sv:=(by grind [Ac]);have hrE:=hr.erase id;have hl':=hl (H.erase id) heg;cases m with
  |zero=>
   simp only [A6]at hrr;subst hrr;have hev:DN P (H.erase id) t tx .nsl xa=some (.nsl,H.erase id):=by simp_all [DN]
   obtain ⟨E',v,w',g1,g2,g3,g4⟩:=H8 (ty:=ty) hrE hc0 hx hev;have hvn:=g3.newVoid hroomE (n:=n) (by rw [g2.1.2.2.2.1];exact hn);refine ⟨E'.void H.next,v,w',g1,Ag.sub_trans g2.1 (Ag.sub_void _ _),g2.2.2.1,λhat j hj=>?_,hvn,?_,λh=>absurd h (zb' 0)⟩;rcases hj with hj|hj;exact .inl (by rw [g2.2.2.2];exact hat j (by rw [←g2.2.1];exact hj));exact .inr hj;exact ⟨.nsl,by show E'.sy n=_;rw [g2.1.2.2.2.1];exact hn,.inl ⟨rfl,g4⟩⟩
  |succ m=>
   simp only at hrr;split at hrr
   .rename_i hb;cases hrr;have hev:DN P (H.erase id) t tx .nsl xa=some (.sl (H.erase id).next 0 (m+1) info.size none,(H.erase id).push (.cells l)):=by
     grind [DN,Ga]
    obtain ⟨E',v,w',g1,g2,g3,g4⟩:=H8 (ty:=ty) hrE hc0 hx hev;obtain ⟨k1,k2⟩:=JD (H0:=H.erase id) g2.1 g3 g4 r2 hlok hn hrok hlen;exact ⟨E',v,w',g1,g2.1,g2.2.2.1,λhat j hj=>by rw [g2.2.2.2];exact hat j (by rw [←g2.2.1];exact hj),k1,k2,λ_=>g2⟩
   cases hrr
 ·
  simp only at hrr;split at hrr;cases hrr;rename_i hd;have hcl:cs.length=len*info.size:=(AU hd).2;obtain ⟨hrX,_⟩:=hr.expand hk hsi;have hc0:Ac E (.sl id 0 len info.size none) sv:=by
   grind [Ac]
  have hsg:∀j,j≠id->(H.set id (.cells cs)).get j=H.get j:=λj hj=>AHeap.get_set_ne H hid (λe=>hj e.symm) _;have hl':=hl (H.set id (.cells cs)) hsg;have hsame:∀j k,((H.erase id).push (.syl n)).get j=some k->(((H.set id (.cells cs)).erase id).push (.syl n)).get j=some k:=λj k hj=>by
   by_cases e:H.next=j
   .have e1:((H.erase id).push (.syl n)).get H.next=some (.syl n):=AHeap.get_push_same (H.erase id) r2 _;have e2:(((H.set id (.cells cs)).erase id).push (.syl n)).get H.next=some (.syl n):=AHeap.get_push_same ((H.set id (.cells cs)).erase id) r2 _
    grind
   .have e1:((H.erase id).push (.syl n)).get j=(H.erase id).get j:=AHeap.get_push_ne (H.erase id) r2 e _;have e2:(((H.set id (.cells cs)).erase id).push (.syl n)).get j=((H.set id (.cells cs)).erase id).get j:=AHeap.get_push_ne ((H.set id (.cells cs)).erase id) r2 e _
    grind [AHeap.get_erase_same,AHeap.get_erase_ne]
  have hgetX:(H.set id (.cells cs)).get id=some (.cells cs):=AHeap.get_set_same H hid _;cases m with
  |zero=>
   simp only [A6]at hrr;subst hrr;have hev:DN P (H.set id (.cells cs)) t tx (.sl id 0 len info.size none) xa=some (.sl id 0 len info.size none,H.set id (.cells cs)):=by simp_all [DN]
   obtain ⟨E',v,w',g1,g2,g3,g4⟩:=H8 (ty:=ty) hrX hc0 hx hev;have g4':=g4;obtain ⟨b,o,nn,c,off',q1,q2,q3,q4,q5,q6,_⟩:=g4';obtain ⟨arr,t',f1,f2,f3,f4⟩:=g3.blk hgetX q1;have hroomX:(H.set id (.cells cs)).room=true:=hroom;obtain ⟨p1,p2⟩:=g3.renew hroomX hgetX q1 f1 f3 f4;have hsub:E.sub (E'.bind H.next b o):=Ag.sub_trans g2.1 p1.1;have hden:An E.sy cs=cs:=EF _ hrok;have hcon2:Ac (E'.bind H.next b o) (.sl H.next 0 len info.size none) v:=(by exact ⟨b,o,nn,c,off',by simp [Ag.bind],p1.1.2.1 _ _ q2,q3,q4,q5,q6,λk hk=>by cases hk⟩);obtain ⟨k1,k2⟩:=JD (H0:=(H.set id (.cells cs)).erase id) hsub p2 hcon2 r2 (EP hrok) (by rw [hden];exact hn) (by rw [hden];exact hrok) hcl;exact ⟨_,v,w',g1,hsub,g2.2.2.1,λhat j hj=>by show E'.vd j;rw [g2.2.2.2];exact hat j (by rw [←g2.2.1];exact hj),k1.same hsame rfl rfl,k2,λh=>absurd h (zb' 0)⟩
  |succ m=>
   simp only at hrr;split at hrr
   .rename_i hb;cases hrr;have hlc:Nat.beq (Nat.add 0 (Nat.mul len info.size)) (Bs cs)=true:=by simp_all [BW]
    have hroomX:((H.set id (.cells cs)).erase id).room=true:=hroom;have hev:DN P (H.set id (.cells cs)) t tx (.sl id 0 len info.size none) xa=some (.sl ((H.set id (.cells cs)).erase id).next 0 (Nat.add len (m+1)) info.size none,((H.set id (.cells cs)).erase id).push (.cells (cs++l))):=(by unfold DN;simp only [ht,hi,hz,htx,hnot,hzl,Bool.and_self,hm,hl',hlb,Nat.beq_refl,hb,hgetX,hone,hlc,Ga,hroomX,Bk]);obtain ⟨E',v,w',g1,g2,g3,g4⟩:=H8 (ty:=ty) hrX hc0 hx hev;have hcs:=(WW hrok).1;have hden:An E.sy (cs++l)=cs++An E.sy l:=(by rw [MZ,EF _ hcs])
    obtain ⟨k1,k2⟩:=JD (H0:=(H.set id (.cells cs)).erase id) g2.1 g3 g4 r2 (Xm (EP hcs) hlok) (by rw [hden];exact hn) (by rw [hden];exact hrok) (by
     grind)
    exact ⟨E',v,w',g1,g2.1,g2.2.2.1,λhat j hj=>by rw [g2.2.2.2];exact hat j (by rw [←g2.2.1];exact hj),k1.same hsame rfl rfl,k2,λ_=>g2⟩
   cases hrr
end
section
variable [Gl]
def Ln (H:AHeap) (sz:Nat) (x:AV):Option AV:=match x with
 | .sl id off len sz' cap=>match Cx H (.sl id off len sz' cap) len sz with
   |some l=>match Bm l&&(Dc l&&(Nat.beq (Bs l) (Nat.mul len sz)&&Nat.blt 0 sz))with
    |true=>some (.agg l)
    |false=>none
   |none=>none
 | .sym i=>some (.sym i)
 | .vsl n z cs=>match Bm cs with
   |true=>some (.vsl n z cs)
   |false=>none
 | .nsl=>some .nsl
 | .str s=>some (.str s)
 |_=>none
def JE (P:Program) (T:Tm) (H:AHeap) (o:Oper):Option (Nat×Nat×XOp×List AV):=match o.op with
 | .call c=>match c.callee with
   | .builtin b=>match b with
     | .append=>match c.args.toList,c.argTypes.toList with
       |[s,x],[t,tx]=>match look T s with
        | .slx id sz i=>match H.get id with
          |some (.syl j)=>match Nat.beq j i&&H.room with
           |true=>match P.underlying t with
            |some (.slice e)=>match P.info? e with
             |some info=>match info.zero with
                 |some z=>match P.underlying tx with
                  |some dx=>match JX dx&&(Nat.beq (Bs (Ch z)) info.size&&Nat.beq info.size sz)with
                   |true=>match Ln H sz (look T x)with
                    |some b=>some (id,sz,.app sz info.bytes,[.sym i,b])
                    |none=>none
                   |false=>none
                  |none=>none
                 |none=>none
             |none=>none
            |_=>none
           |false=>none
          |_=>none
        |_=>none
       |_,_=>none
     |_=>none
   |_=>none
 |_=>none
section
omit [Gl]
def yR {H H':AHeap} {id id2 off len sz' n sz i:Nat} {cap:Option Nat} {l:List AV} (hk:H.get id=some (.syl i)) (h:Cx H (.sl id2 off len sz' cap) n sz=some l) (hH:∀j,j≠id->H'.get j=H.get j):
  Cx H' (.sl id2 off len sz' cap) n sz=some l:=by
 unfold Cx at h⊢
 grind [DB]
def dE {E:Ag} {a:AV} {v:Value} (h:Aj E a v):GJ a=true:=by cases a<;>first|rfl|(simp [Aj]at h)
def X8 {E:Ag} {H:AHeap} {sz id i:Nat} {x b:AV} {xv:Value} (hx:Ac E x xv) (hk:H.get id=some (.syl i)) (h:Ln H sz x=some b) {n:Nat} {l:List AV} (hb:DF sz (Ar E.sy b)=some (n,l)) (hok:Ak l=true):
  ∃xa l',Ac E xa xv/\C4 xa=some n/\(∀H':AHeap,(∀j,j≠id->H'.get j=H.get j)->Cx H' xa n sz=some l')/\Dc l'=true/\Bm l'=true/\l=An E.sy l':=by
 have closed:∀b,Bh b=true->x=b->(∀l,Ar E.sy b≠ .agg l)->DF sz (Ar E.sy b)=some (n,l)->∃xa l',Ac E xa xv/\C4 xa=some n/\(∀H':AHeap,(∀j,j≠id->H'.get j=H.get j)->Cx H' xa n sz=some l')/\Dc l'=true/\Bm l'=true/\l=An E.sy l':=by
  intro b hs e hna hb;subst e;have hc0:=CZ hs hx;have hoff:=dE hc0;have:∃n',C4 (Ar E.sy x)=some n'/\∃l',Cx ⟨AE,0,0⟩ (Ar E.sy x) n' sz=some l'/\n=n'/\l=l':=by
   unfold DF at hb
   grind
  obtain ⟨_,h1,_,h2,rfl,rfl⟩:=this;refine ⟨_,l,hc0.con,h1,λH' _=>?_,okL_allOne hok,EP hok,(EF _ hok).symm⟩
  grind [iY]
 unfold Ln at h;split at h;rename_i id2 off len sz' cap;split at h;rename_i l' hl;split at h;rename_i hbb;cases h;obtain ⟨b1,hbb⟩:=Au hbb;obtain ⟨b2,hbb⟩:=Au hbb;obtain ⟨b3,b4⟩:=Au hbb;have b3:=za' b3;rw [BW]at b3;have b3:l'.length=len*sz:=b3;have b4:0<sz:=(by simp_all);simp only [Ar,DF,A6,Prod.mk.injEq]at hb;obtain ⟨e1,e2⟩:=hb;have e1:(An E.sy l').length/sz=n:=(by rw [←e1,BW];rfl);rw [IM,b3,Nat.mul_div_cancel _ b4]at e1;subst e1;exact ⟨_,l',hx,rfl,λH' hH=>yR hk hl hH,b2,b1,e2.symm⟩;cases h;cases h;cases h;refine closed _ rfl rfl (λl e=>?_) hb;have hx':=hx;obtain ⟨a,q1,q2,_⟩:=hx';simp only [Ar,q1]at e;subst e;cases q2;split at h;rename_i hs;cases h;exact closed _ (by grind [Bh]) rfl (λl e=>by simp [Ar]at e) hb;cases h;cases h;exact closed _ rfl rfl (λl e=>by simp [Ar]at e) hb;cases h;exact closed _ rfl rfl (λl e=>by simp [Ar]at e) hb;cases h
where okL_allOne:∀{l:List AV},Ak l=true->Dc l=true
 |[],_=>rfl
 |a::r,h=>by rw [CA]at h;obtain ⟨h1,h2⟩:=Au h;simp only [Dc,Fx h1];exact okL_allOne h2
def V0 {sz bytes n:Nat} {a r:AV} {l:List AV} (h:El sz bytes a n l=some r) (hr:okC r=true):Ak l=true:=by
 unfold El at h;split at h;cases h
 .rename_i hd;have hd:l.length=n*sz:=AU hd;have nil:n=0->Ak l=true:=λe=>by subst e;rw [Nat.zero_mul]at hd;rw [List.eq_nil_of_length_eq_zero hd];rfl
  split at h
  .split at h;exact nil rfl
   .split at h<;>grind [okC]
  split at h;cases h;split at h;exact nil rfl;split at h;cases h;exact (WW (by simpa only [okC]using hr)).2;cases h;cases h
end
def qN {P:Program} {N k:Nat} {o:Oper} {T:Tm} {H:AHeap} {id sz n:Nat} {op:XOp} {ag:List AV} (ha:JE P T H o=some (id,sz,op,ag)) {Y:Sy} (hf:AA Y n) {r:AV} (hr:op.run P (An Y.v ag)=some r) (hok:okC r=true)
  {B:World} {pr:Nat->Prop} {E:Ag} {a:Act} {w:World} (hy:E.At Y) (st:St P B pr N E T H [] a w):
  ∃E' nx v w',(execOp a.eval o).run P w=.ok nx w'/\(nx=.value v\/(nx=.skip/\v=undef))/\E.leF k E'/\E'.At (Y.put n r)/\St P B pr N E' T ((H.erase id).push (.syl n)) [] a w'/\Ac E' (.slx H.next sz n) v:=by
 unfold JE at ha;split at ha
 case h_2=>cases ha
 rename_i c ho;split at ha
 case h_2=>cases ha
 rename_i b hc;split at ha
 case h_2=>cases ha
 split at ha
 case h_2=>cases ha
 rename_i s x t tx h1 h2;split at ha
 case h_2=>cases ha
 rename_i id' sz' i hs;split at ha
 case h_2=>cases ha
 rename_i j hk;split at ha
 case h_2=>cases ha
 rename_i hji;split at ha
 case h_2=>cases ha
 rename_i e ht;split at ha
 case h_2=>cases ha
 rename_i info hi;split at ha
 case h_2=>cases ha
 rename_i z hz;split at ha
 case h_2=>cases ha
 rename_i dx htx;split at ha
 case h_2=>cases ha
 rename_i hb;split at ha
 case h_2=>cases ha
 rename_i bb harg;cases ha;obtain ⟨hji,hroom⟩:=Au hji;have hji:=za' hji;subst hji;obtain ⟨hnot,hb⟩:=Au hb;obtain ⟨hzl,hsz⟩:=Au hb;have hsz:=za' hsz;have hv:∀i x,E.sy i=some x->(Y.put n r).v i=some x:=λi x hx=>hf.sub_put r i x (by rw [←hy.v];exact hx);have hll:∀i l,E.syl i=some l->(Y.put n r).l i=some l:=λi l hx=>by rw [hy.l]at hx;exact hx
 have hlo:∀i,i<64->(Y.put n r).v i=E.sy i:=λi hi=>by rw [hy.v];exact hf.low r i hi
 have st1:=st.with hv hll hlo;have cs:=st1.t.look s;have cx:=st1.t.look x;rw [hs]at cs;obtain ⟨av,ha0⟩:∃av,E.sy j=some av:=by
  have csY:=st.t.look s
  grind [Ac]
 have ha1:(Y.put n r).v j=some av:=hv _ _ ha0;rw [hy.v]at ha0;simp only [An,Ar,ha0,XOp.run]at hr;split at hr
 case h_2=>cases hr
 rename_i m l hm;obtain ⟨xa,l',x1,x2,x3,x4,x5,rfl⟩:=X8 (st.t.look x) hk harg (n:=m) (l:=l) (by rw [hy.v];exact hm) (V0 hr hok);have x1':Ac (E.with (Y.put n r)) xa (a.eval x):=x1.with hv hll;have hl2:An (E.with (Y.put n r)).sy l'=An E.sy l':=by obtain ⟨vs,_,hcl,_⟩:=HQ (P:=P) st.r x1 x2 (zc' _) (x3 H λ_ _=>rfl);exact KG hv hcl
 obtain ⟨E',v,w',g1,g2,g3,g4,g5,g6,_⟩:=mY (ty:=o.type) st1.r (n:=n) ht hi hz htx hnot hzl hsz cs x1' hk hroom x2 x3 x4 x5 ha1 (by grind) hok (Sy.put_same _ _ _);have g4:=g4 hy.res;obtain ⟨callee,cargs,ctypes⟩:=c;have h1:=Dt h1;have h2:=Dt h2;subst hc h1 h2
 refine ⟨E',.value v,v,w',?_,.inl rfl,(Ag.with_leF k hlo).trans ⟨λi x _ hx=>g2.1 i x hx,g2.2.1,g2.2.2.1,g3,λi _=>by rw [g2.2.2.2.1]⟩,⟨g2.2.2.2.1,g2.2.2.2.2,g4⟩,
  ⟨⟨st1.t.size,st1.t.le,λt ht=>(st1.t.con t ht).sub g2,st1.t.gl.sub g2⟩,g5,st1.d.sub g2⟩,g6⟩
 unfold execOp
 grind [resolve,Sem.run_bind,Sem.run_pure,Result.andThen_ok,invoke,builtin]
def LM:List AV->Bool
 |[_,b]=>match b with
  | .agg l=>Nat.blt 0 (Bs l)
  | .vsl n _ _=>Nat.blt 0 n
  |_=>false
 |_=>false
def HG:List AV->Option Nat
 |[_,b]=>match b with
  | .sym i=>some i
  |_=>none
 |_=>none
def Iu (s:Nat->Option AV) (i:Nat):Prop:=∃n z cs,s i=some (.vsl (n+1) z cs)
omit [Gl]in
def ge {H:AHeap} {sz:Nat} {x:AV} {l:List AV} (h:Ln H sz x=some (.agg l)):0<sz/\∃len,l.length=len*sz:=by
 unfold Ln at h;split at h
 .split at h
  .split at h
   .grind [za',BW,ze']
   cases h
  cases h
 all_goals grind
def qE_ {P:Program} {N:Nat} {o:Oper} {T:Tm} {H:AHeap} {id sz n:Nat} {op:XOp} {ag:List AV} (ha:JE P T H o=some (id,sz,op,ag)) {r:AV} (hok:okC r=true)
  {B:World} {pr:Nat->Prop} {E:Ag} {a:Act} {w:World} (hpos:LM ag=true\/∃i,HG ag=some i/\Iu E.sy i) (hr:op.run P (An E.sy ag)=some r) (hn:E.sy n=some r) (hT:Bf E N T a.tmps) (hrel:As B pr E H w):
  (∃c,o.op=.call c)/\∃E' v w',(execOp a.eval o).run P w=.ok (.value v) w'/\E.le E'/\As B pr E' ((H.erase id).push (.syl n)) w'/\Ac E' (.slx H.next sz n) v:=by
 unfold JE at ha;split at ha
 case h_2=>cases ha
 rename_i c ho;split at ha
 case h_2=>cases ha
 rename_i b hc;split at ha
 case h_2=>cases ha
 split at ha
 case h_2=>cases ha
 rename_i s x t tx h1 h2;split at ha
 case h_2=>cases ha
 rename_i id' sz' i hs;split at ha
 case h_2=>cases ha
 rename_i j hk;split at ha
 case h_2=>cases ha
 rename_i hji;split at ha
 case h_2=>cases ha
 rename_i e ht;split at ha
 case h_2=>cases ha
 rename_i info hi;split at ha
 case h_2=>cases ha
 rename_i z hz;split at ha
 case h_2=>cases ha
 rename_i dx htx;split at ha
 case h_2=>cases ha
 rename_i hb;split at ha
 case h_2=>cases ha
 rename_i bb harg;cases ha;refine ⟨⟨c,ho⟩,?_⟩;obtain ⟨hji,hroom⟩:=Au hji;have hji:=za' hji;subst hji;obtain ⟨hnot,hb⟩:=Au hb;obtain ⟨hzl,hsz⟩:=Au hb;have hsz:=za' hsz;have cs:=hT.look s;rw [hs]at cs;obtain ⟨av,ha0⟩:∃av,E.sy j=some av:=by
  grind [Ac]
 simp only [An,Ar,ha0,XOp.run]at hr;split at hr
 case h_2=>cases hr
 rename_i m l hm;obtain ⟨xa,l',x1,x2,x3,x4,x5,rfl⟩:=X8 (hT.look x) hk harg (n:=m) (l:=l) hm (V0 hr hok);obtain ⟨E',v,w',g1,g2,g3,g4,g5,g6,g7⟩:=mY (ty:=o.type) hrel (n:=n) ht hi hz htx hnot hzl hsz cs x1 hk hroom x2 x3 x4 x5 ha0 hr hok hn;have hm0:0<m:=by
  rcases hpos with hpos|⟨i,hi,nn,zz,cc,hcc⟩
  rotate_left
  .cases bb with
   |sym k=>
    cases hi;simp only [Ar,hcc,Option.getD_some,DF,C4]at hm
    grind
   |_=>cases hi
  cases bb with
  |vsl n0 z0 c0=>
   have hp:0<n0:=by have:Nat.blt 0 n0=true:=hpos;simp_all
   grind [Ar,DF,C4]
  |agg l0=>
   have hp:0<l0.length:=by
    have:Nat.blt 0 (Bs l0)=true:=hpos
    grind [BW,ze']
   have hm1:=(Prod.mk.inj (Option.some.inj hm)).1;rw [←hm1];obtain ⟨h0,len,hl⟩:=ge harg;rw [BW,IM,hl];show 0<len*sz/sz;simp_all
  |_=>cases hpos
 have h1:=Dt h1;have h2:=Dt h2;refine ⟨E',v,w',?_,g7 hm0,g5,g6⟩;unfold execOp;simp only [resolve,Sem.run_bind,Sem.run_pure,Result.andThen_ok,invoke,builtin];simp_all
def FA (T:Tm) (o:Oper):Option (XOp×List AV):=match o.op with
 | .call c=>match c.callee with
   | .builtin b=>match b with
     | .len=>match c.args.toList,c.argTypes.toList with
       |[x],[t]=>match look T x with
        | .slx id sz i=>some (.len t,[.sym i])
        |_=>none
       |_,_=>none
     |_=>none
   |_=>none
 |_=>none
def V2 (s:Nat->Option AV) (T:Tm) (x:Operand):AV:=match look T x with
 | .slx id sz i=>match s i with
   |some .nsl=>.nsl
   |some (.vsl len _ _)=>.sl id 0 len sz none
   |_=>.opq
 |a=>a
def wg {E:Ag} {N:Nat} {T:Tm} {a:Act} (h:Bf E N T a.tmps) (x:Operand):Ac E (V2 E.sy T x) (a.eval x):=by
 have hl:=h.look x;unfold V2;split
 .rename_i id sz i he;rw [he]at hl;obtain ⟨a,h1,⟨rfl,h2⟩|⟨len,cs,rfl,b,o,n,c,off',q1,q2,q3,q4,q5,q6⟩⟩:=hl<;>grind [Ac]
 exact hl
def dI {P:Program} {N:Nat} {o:Oper} {T:Tm} {H:AHeap} {op:XOp} {ag:List AV} (ha:FA T o=some (op,ag)) {B:World} {pr:Nat->Prop} {E:Ag} {a:Act} {w:World} {r:AV} (hr:op.run P (An E.sy ag)=some r) (ht:Bf E N T a.tmps) (hrel:As B pr E H w):
  ∃E' n v w',(execOp a.eval o).run P w=.ok n w'/\(n=.value v\/(n=.skip/\v=undef))/\E.le E'/\As B pr E' H w'/\Ac E' r v:=by
 unfold FA at ha;split at ha
 case h_2=>cases ha
 rename_i c ho;split at ha
 case h_2=>cases ha
 rename_i b hc;split at ha
 case h_2=>cases ha
 split at ha
 case h_2=>cases ha
 rename_i x t h1 h2;split at ha
 case h_2=>cases ha
 rename_i id sz i hx;cases ha;have hl:=ht.look x;rw [hx]at hl;obtain ⟨av,e1,hl⟩:=hl;have e2:=e1;simp only [An,Ar,e2,XOp.run]at hr;have hev:B0 P (V2 E.sy T) H o=some (.val r H):=by
  unfold B0 Jt;simp only [ho,hc,h1,h2];unfold V2;simp only [hx];rcases hl with ⟨rfl,_⟩|⟨len,cs,rfl,_⟩
  .have:Ey P H t .nsl=some r:=by exact hr
   grind [oV]
  .simp only [e1];have:Ey P H t (.sl id 0 len sz none)=some r:=by unfold Ey at hr⊢;split at hr;cases hr;exact hr;exact hr;cases hr;cases hr
   simp only [this,oV]
 obtain ⟨E',n,v,w',h1,h2,h3,h4,h5⟩:=We hrel (λx=>wg ht x) hev
 grind
def qA {P:Program} {N:Nat} {o:Oper} {T:Tm} {H:AHeap} {op:XOp} {ag:List AV} (ha:FA T o=some (op,ag)) {Y:Sy} {r:AV} (hr:op.run P (An Y.v ag)=some r)
  {B:World} {pr:Nat->Prop} {E:Ag} {a:Act} {w:World} {D:Bj} (hy:E.At Y) (st:St P B pr N E T H D a w):
  ∃E' n v w',(execOp a.eval o).run P w=.ok n w'/\(n=.value v\/(n=.skip/\v=undef))/\E.le E'/\St P B pr N E' T H D a w'/\Ac E' r v:=by
 obtain ⟨E',n,v,w',h1,h2,h3,h4,h5⟩:=dI ha (by rw [hy.v];exact hr) st.t st.r;exact ⟨E',n,v,w',h1,h2,h3,⟨st.t.mono h3,h4,st.d.mono h3⟩,h5⟩
omit [Gl]in
def As.setTo {B:World} {pr:Nat->Prop} {E:Ag} {H:AHeap} {w:World} (h:As B pr E H w) {id:Nat} {k0 k:A2} (hk:H.get id=some k0) (hb:∀own:Nat->Option Nat,BF E w own id k0->BF E w own id k):As B pr E (H.set id k) w:=by
 have hlt:=AHeap.get_lt hk;obtain ⟨own,g1,g2⟩:=h.own;refine { own:=⟨own,λid' k' hk'=>?_,g2⟩,imm:=h.imm,ib:=h.ib,fresh:=h.fresh,resv:=h.resv,vds:=h.vds,szs:=h.szs,prot:=h.prot,size:=h.size,os:=h.os,output:=h.output }
 grind [AHeap.get_set_same,AHeap.get_set_ne]
def frz (F:AHeap) (a:AV):AV:=match Fe 100 F a with
 |some b=>b
 |none=>a
def xW {P:Program} {N k:Nat} {Y:Sy} {T:Tm} {H F H':AHeap} {D:Bj} (hF:∀id k,F.get id=some k->H.get id=some k) (hH:∀id k,H'.get id=some k->H.get id=some k/\F.get id=none) (hn:H'.next=H.next) (hh:H'.hi=H.hi):
  A1 P N k Y T H D Y (BZ (frz F) T) H' D:=λB pr E a w hy st=>by
 obtain ⟨E',h1,h2,h3,h4,h5,h6,h7⟩:=st.r.freezeS hF hH hn hh;refine ⟨E',⟨λi x _ hx=>by grind,h1.2.1,h1.2.2.1,h4,λi _=>by rw [h1.2.2.2.1]⟩,⟨h1.2.2.2.1.trans hy.v,h1.2.2.2.2.trans hy.l,by rw [h3,h5];exact hy.res⟩,⟨⟨st.t.size,st.t.le,λt ht=>?_,st.t.gl.sub h1⟩,h6,st.d.sub h1⟩⟩;rw [E8];unfold frz;have:=st.t.con t ht;split;rename_i b hb;exact Rt st.r hF h1 h7 100 _ _ _ hb this;exact this.sub h1
mutual
def dU:Nat->AHeap->AV->List Nat->List Nat
 |0,_,_,acc=>acc
 |n+1,H,a,acc=>match a with
  | .sl id _ _ _ _=>WP n H id acc
  | .ptr id _=>WP n H id acc
  | .slx id _ _=>WP n H id acc
  | .vptr cs=>Kg n H cs acc
  | .vsl _ _ cs=>Kg n H cs acc
  | .fn _ cs=>Kg n H cs acc
  | .agg cs=>Kg n H cs acc
  | .tup cs=>Kg n H cs acc
  | .iface _ a=>dU n H a acc
  |_=>acc
def WP:Nat->AHeap->Nat->List Nat->List Nat
 |0,_,_,acc=>acc
 |n+1,H,id,acc=>match BB id acc with
  |true=>acc
  |false=>match H.get id with
   |some (.cells cs)=>Kg n H cs (id::acc)
   |some (.syl _)=>id::acc
   |_=>acc
def Kg:Nat->AHeap->List AV->List Nat->List Nat
 |0,_,_,acc=>acc
 |n+1,H,l,acc=>match l with
  |[]=>acc
  |a::r=>Kg n H r (dU n H a acc)
end
def FY (H:AHeap):List Nat->AHeap
 |[]=>⟨AE,0,0⟩
 |id::r=>match H.get id with
  |some k=>(FY H r).set id k
  |none=>FY H r
def GK (H:AHeap):List Nat->AHeap
 |[]=>H
 |id::r=>(GK H r).erase id
section
omit [Gl]
theorem M7 {H:AHeap}:∀(l:List Nat) (id:Nat) (k:A2),(FY H l).get id=some k->H.get id=some k/\id∈l
 |[],id,k,h=>by
  grind [Pc,FY]
 |i::r,id,k,h=>by unfold FY at h;split at h;rename_i k' hk;have hi:=AHeap.get_lt hk;by_cases e:i=id;subst e;rw [AHeap.get_set_same _ hi]at h;cases h;exact ⟨hk,zf' ..⟩;rw [AHeap.get_set_ne _ hi e]at h;obtain ⟨h1,h2⟩:=M7 r id k h;exact ⟨h1,zd' _ h2⟩;obtain ⟨h1,h2⟩:=M7 r id k h;exact ⟨h1,zd' _ h2⟩
def Vc {H:AHeap}:∀(l:List Nat) (id:Nat) (k:A2),(GK H l).get id=some k->H.get id=some k/\id∉l
 |[],id,k,h=>⟨h,λh=>by cases h⟩
 |i::r,id,k,h=>by have h:((GK H r).erase i).get id=some k:=h;have e:i≠id:=λe=>(by subst e;rw [AHeap.get_erase_same]at h;cases h);rw [AHeap.get_erase_ne _ e]at h;obtain ⟨h1,h2⟩:=Vc r id k h;refine ⟨h1,λhm=>?_⟩;rcases List.mem_cons.1 hm with hm|hm;exact e hm.symm;exact h2 hm
def N9 {H:AHeap}:∀l,(GK H l).next=H.next/\(GK H l).hi=H.hi
 |[]=>⟨rfl,rfl⟩
 |i::r=>N9 r
end
def Uk {P:Program} {N k:Nat} {Y:Sy} {T:Tm} {H:AHeap} {D:Bj} (l:List Nat):A1 P N k Y T H D Y (BZ (frz (FY H l)) T) (GK H l) D:=by refine xW (λid k h=>(M7 l id k h).1) (λid k h=>?_) (N9 l).1 (N9 l).2;obtain ⟨h1,h2⟩:=Vc l id k h;cases hf:(FY H l).get id<;>grind [FY,get,id,absurd,M7]
def KZ (F:AHeap):List AV->List AV
 |[]=>[]
 |a::r=>frz F a::KZ F r
omit [Gl]in
theorem fx (F:AHeap):∀(l:List AV) (i:Nat),(KZ F l)[i]? =(l[i]?).map (frz F)
 |[],i=>by simp [KZ]
 |a::r,0=>by simp [KZ]
 |a::r,i+1=>by simpa [KZ]using fx F r i
omit [Gl]in
theorem dm (F:AHeap):∀l:List AV,(KZ F l).length=l.length
 |[]=>rfl
 |a::r=>by simp [KZ,dm F r]
def Sb (F:AHeap) (id:Nat) (H:AHeap):AHeap:=match H.get id with
 |some (.cells cs)=>H.set id (.cells (KZ F cs))
 |_=>H
def rH {P:Program} {N k:Nat} {Y:Sy} {T:Tm} {H F H':AHeap} {D:Bj} (rid:Nat) (hF:∀id k,F.get id=some k->H.get id=some k) (hH:∀id k,H'.get id=some k->H.get id=some k/\F.get id=none) (hn:H'.next=H.next) (hh:H'.hi=H.hi):
  A1 P N k Y T H D Y (BZ (frz F) T) (Sb F rid H') D:=λB pr E a w hy st=>by
 obtain ⟨E',h1,h2,h3,h4,h5,h6,h7⟩:=st.r.freezeS hF hH hn hh;have hcon:∀x v,Ac E x v->Ac E' (frz F x) v:=λx v hc=>by unfold frz;split;rename_i b hb;exact Rt st.r hF h1 h7 100 _ _ _ hb hc;exact hc.sub h1
 refine ⟨E',⟨λi x _ hx=>by grind,h1.2.1,h1.2.2.1,h4,λi _=>by rw [h1.2.2.2.1]⟩,⟨h1.2.2.2.1.trans hy.v,h1.2.2.2.2.trans hy.l,by rw [h3,h5];exact hy.res⟩,⟨⟨st.t.size,st.t.le,λt ht=>?_,st.t.gl.sub h1⟩,?_,st.d.sub h1⟩⟩;rw [E8];exact hcon _ _ (st.t.con t ht)
 .unfold Sb;split
  .rename_i cs hk;have hk0:=(hH rid _ hk).1;refine h6.setTo hk λown hrow=>?_;rcases hrow with ⟨_,hv⟩|⟨b,o,q1,q2,arr,t,q3,q4,q5,q6⟩;exact hv.elim
   .rw [h2]at q1;obtain ⟨arr2,t2,e1,e2,e3,e4⟩:=st.r.blk hk0 q1;refine .inr ⟨b,o,by grind,q2,arr,t,q3,q4,by rw [dm];exact q5,λi x hx=>?_⟩
    grind [fx]
  exact h6
def dJ {P:Program} {N k:Nat} {Y:Sy} {T:Tm} {H:AHeap} {D:Bj} (rid:Nat) (l:List Nat):A1 P N k Y T H D Y (BZ (frz (FY H l)) T) (Sb (FY H l) rid (GK H l)) D:=by refine rH rid (λid k h=>(M7 l id k h).1) (λid k h=>?_) (N9 l).1 (N9 l).2;obtain ⟨h1,h2⟩:=Vc l id k h;cases hf:(FY H l).get id<;>grind [FY,get,id,absurd,M7]
def B8:List (AV×AV×Nat)->List AV
 |[]=>[]
 |(k,v,_)::r=>Ge k::v::B8 r
def Ms:List (AV×AV×Nat)->Bool
 |[]=>true
 |(k,_,_)::r=>(match k with
  | .sym _=>false
  |_=>true)&&Ms r
section
omit [Gl]
theorem aY:∀es:List (AV×AV×Nat),(B8 es).length=es.length*2
 |[]=>rfl
 |(k,v,_)::r=>by simp only [B8,List.length_cons,aY r];omega
def i5 {E:Ag}:∀{cs:List AV} {ms:List MapEntry},EC E cs ms->∃es,ConE E es ms/\B8 es=cs/\es.length=ms.length
 |[],ms,h=>⟨[],h,rfl,by grind [EC]⟩
 |[_],ms,h=>h.elim
 |k::v::r,ms,h=>by obtain ⟨e,t,rfl,h2,h3,h4⟩:=h;obtain ⟨es,g1,g2,g3⟩:=i5 h4;exact ⟨(KW k,v,e.born)::es,⟨e,t,rfl,h2.2.con,h3.con,rfl,g1⟩,by simp only [B8,g2,h2.1],by simp [g3]⟩
def xI {s:Nat->Option AV} {k:AV} (h:∀i,k≠ .sym i):Ar s (Ge k)=Ge (Ar s k):=by cases k<;>first|rfl|(exact absurd rfl (h _))
theorem rK (k:AV):Bh (Ge k)=Bh k:=by cases k<;>rfl
def vO {k:AV} (h:okC (Ge k)=true):∀i,k≠ .sym i:=λi e=>by subst e;cases h
theorem Yq:∀{es:List (AV×AV×Nat)},Ak (B8 es)=true->Ms es=true
 |[],_=>rfl
 |(k,v,b)::es,h=>by
  simp only [B8,Ak]at h;have h1:okC (Ge k)=true:=by
   cases hk:okC (Ge k)with
   |true=>rfl
   |false=>rw [hk]at h;cases h
  rw [h1]at h;have h2:Ak (B8 es)=true:=by
   cases hv:okC v with
   |true=>rw [hv]at h;exact h
   |false=>rw [hv]at h;cases h
  have:=vO h1;simp only [Ms,Yq h2,Bool.and_true]<;>(cases k<;>first|rfl|(exact absurd rfl (this _)))
def W7 {E:Ag}:∀{es:List (AV×AV×Nat)} {ms:List MapEntry},Bm (B8 es)=true->Ms es=true->ConE E es ms->EC E (An E.sy (B8 es)) ms
 |[],ms,_,_,h=>h
 |(k,v,b)::es,ms,hok,hke,h=>by
  simp only [B8,Bm,rK]at hok;obtain ⟨e,t,rfl,h2,h3,_,h5⟩:=h;simp only [Ms,Bool.and_eq_true]at hke;have hns:∀i,k≠ .sym i:=λi e=>(by subst e;cases hke.1);cases hk:Bh k with
  |false=>grind
  |true=>
   rw [hk]at hok;cases hv:Bh v with
   |false=>grind
   |true=>rw [hv]at hok;refine ⟨e,t,rfl,?_,CZ hv h3,W7 hok hke.2 h5⟩;rw [xI hns,VK];exact ⟨rfl,CZ hk h2⟩
theorem ConE.length {E:Ag}:∀{es:List (AV×AV×Nat)} {ms:List MapEntry},ConE E es ms->ms.length=es.length
 |[],ms,h=>by grind [Go.Sx.ConE]
 |(k,v,b)::es,ms,h=>by obtain ⟨e,t,rfl,_,_,_,h5⟩:=h;simp [h5.length]
end
section
variable {P:Program} {B:World} {pr:Nat->Prop} {E:Ag} {H:AHeap} {w:World}
omit [Gl]in
def As.expandM (h:As B pr E H w) {id i n:Nat} {cs:List AV} (hk:H.get id=some (.mpl i)) (hi:E.sy i=some (.vsl n 2 cs)):∃es clock,As B pr E (H.set id (.map es clock)) w/\B8 es=cs/\es.length=n:=by obtain ⟨own,g1,_⟩:=h.own;obtain ⟨_,hv⟩|⟨b,o,h1,h2,h0,n',cs',e,es',clock,h3,h4,h5⟩:=g1 id _ hk;exact hv.elim;rw [hi]at e;cases e;obtain ⟨es,q1,q2,q3⟩:=i5 h5;refine ⟨es,clock,h.setTo hk λown' hr=>?_,q2,by grind⟩;obtain ⟨_,hv⟩|⟨b',o',k1,k2,k0,n',cs',e,es2,clock2,k3,k4,k5⟩:=hr;exact hv.elim;rw [h1]at k1;cases k1;exact .inr ⟨b,o,h1,k2,h0,es',h3,q1⟩
omit [Gl]in
def As.collapseM (h:As B pr E H w) {id n clock:Nat} {es:List (AV×AV×Nat)} (hk:H.get id=some (.map es clock)) (hs:Bm (B8 es)=true) (hke:Ms es=true) (hn:E.sy n=some (.vsl es.length 2 (An E.sy (B8 es)))):As B pr E (H.set id (.mpl n)) w:=
 h.setTo hk λown hr=>by obtain ⟨_,hv⟩|⟨b,o,k1,k2,k0,es',k3,k4⟩:=hr;exact hv.elim;exact .inr ⟨b,o,k1,k2,k0,es.length,_,hn,es',clock,k3,by rw [←Array.length_toList,k4.length],W7 hs hke k4⟩
end
omit [Gl]in
theorem tO {d:TypeDesc} {k q:AV}:Kh d k (Ge q)=Kh d k q:=by cases q<;>cases d<;>cases k<;>rfl
omit [Gl]in
def jb {d:TypeDesc} {k v:AV} (hk:Ge k=k):∀{es:List (AV×AV×Nat)} {i:Nat} {l:List AV},Lm d k v (B8 es)=some l->
  (∃j a,Ff d k es i=some (some (i+j,a))/\B8 (MN es j v)=l)\/(Ff d k es i=some none/\∀c,B8 (HV es (k,v,c))=l)
 |[],i,l,h=>by simp only [B8,Lm,A6]at h;subst h;exact .inr ⟨rfl,λc=>by simp only [HV,B8,hk]⟩
 |(q,x,b)::es,i,l,h=>by
  simp only [B8,Lm,tO]at h;split at h;rename_i hq;cases h;exact .inl ⟨0,x,by simp_all [Ff],rfl⟩
  .rename_i hq;split at h
   .rename_i l' hl;cases h;rcases jb hk (i:=i+1) hl with ⟨j,a,g1,g2⟩|⟨g1,g2⟩
    .refine .inl ⟨j+1,a,?_,by grind [MN,B8]⟩
     grind [Ff]
    grind [Ff,HV,B8]
   cases h
  cases h
def Ym (P:Program) (T:Tm) (H:AHeap) (o:Oper):Option (Nat×XOp×List AV):=match o.op with
 | .mapUpdate t m k x=>match look T m with
   | .map id=>match H.get id with
     |some (.mpl i)=>match Bh (look T k)&&Bh (look T x)with
      |true=>some (id,.mput t,[.sym i,look T k,look T x])
      |false=>none
     |_=>none
   |_=>none
 |_=>none
def xp {P:Program} {N kk:Nat} {o:Oper} {T:Tm} {H:AHeap} {id n:Nat} {op:XOp} {ag:List AV} (ha:Ym P T H o=some (id,op,ag)) {Y:Sy} (hf:AA Y n) {r:AV} (hr:op.run P (An Y.v ag)=some r) (hok:okC r=true)
  {B:World} {pr:Nat->Prop} {E:Ag} {a:Act} {w:World} (hy:E.At Y) (st:St P B pr N E T H [] a w):
  ∃E' nx v w',(execOp a.eval o).run P w=.ok nx w'/\(nx=.value v\/(nx=.skip/\v=undef))/\E.leF kk E'/\E'.At (Y.put n r)/\St P B pr N E' T (H.set id (.mpl n)) [] a w'/\Ac E' (.tup []) v:=by
 unfold Ym at ha;split at ha
 case h_2=>cases ha
 rename_i t m k x ho;split at ha
 case h_2=>cases ha
 rename_i id' hm;split at ha
 case h_2=>cases ha
 rename_i i hk;split at ha
 case h_2=>cases ha
 rename_i hs;cases ha;obtain ⟨s1,s2⟩:=Au hs;have hlt:=AHeap.get_lt hk;simp only [An,XOp.run]at hr;split at hr
 case h_2=>cases hr
 rename_i kt et ht;split at hr
 case h_2=>cases hr
 rename_i d hkd;unfold XD at hr;split at hr
 case h_2=>cases hr
 rename_i hko;split at hr
 case h_2=>cases hr
 rename_i nn z cs hiv;split at hr
 case h_2=>cases hr
 rename_i hz;obtain ⟨hz,_⟩:=Au hz;have hz:=za' hz;subst hz;split at hr
 case h_2=>cases hr
 rename_i l hl;cases hr;have hv:∀i x,E.sy i=some x->(Y.put n (.vsl (Nat.div (Bs l) 2) 2 l)).v i=some x:=λi x hx=>hf.sub_put _ i x (by rw [←hy.v];exact hx);have hll:∀i x,E.syl i=some x->(Y.put n (.vsl (Nat.div (Bs l) 2) 2 l)).l i=some x:=λi x hx=>by rw [hy.l]at hx;exact hx
 have hlo:∀i,i<64->(Y.put n (.vsl (Nat.div (Bs l) 2) 2 l)).v i=E.sy i:=λi hi=>by rw [hy.v];exact hf.low _ i hi
 have hyi:Y.v i=some (.vsl nn 2 cs):=by
  grind [Ar]
 obtain ⟨es,clock,hrX,hfl,hlen⟩:=st.r.expandM hk (by rw [hy.v];exact hyi);have ck:Ac E (Ar E.sy (look T k)) (a.eval k):=(CZ s1 (st.t.look k)).con;have cx:Ac E (Ar E.sy (look T x)) (a.eval x):=(CZ s2 (st.t.look x)).con;have cm:Ac E (.map id) (a.eval m):=by rw [←hm];exact st.t.look m
 rw [←hy.v]at hko hl;rw [←hfl]at hl;have hgX:(H.set id (.map es clock)).get id=some (.map es clock):=AHeap.get_set_same H hlt _;have key:∃es2 c2,IJ P (H.set id (.map es clock)) t (.map id) (Ar E.sy (look T k)) (Ar E.sy (look T x))=some (.tup [],(H.set id (.map es clock)).set id (.map es2 c2))/\B8 es2=l:=by
  unfold IJ;have hkk:Ge (Ar E.sy (look T k))=Ar E.sy (look T k):=by revert hko;cases Ar E.sy (look T k)<;>first|(intro _;rfl)|(intro h;exact absurd h (by cases d<;>simp [Il]))
  rcases jb hkk (i:=0) hl with ⟨j,q,g1,g2⟩|⟨g1,g2⟩<;>grind
 obtain ⟨es2,c2,hev,hfl2⟩:=key;obtain ⟨w',h1,h2,_⟩:=UV hrX cm ck cx hev;have hokl:Ak l=true:=by grind [okC]
 have hg2:((H.set id (.map es clock)).set id (.map es2 c2)).get id=some (.map es2 c2):=AHeap.get_set_same _ hlt _;have hl2:Nat.div (Bs l) 2=es2.length:=by rw [BW,←hfl2,aY];show es2.length*2/2=_;omega
 have h3:=(h2.with hv hll).collapseM (n:=n) hg2 (by grind [EP]) (Yq (by rw [hfl2];exact hokl)) (by rw [hfl2,EF _ hokl,←hl2];exact Sy.put_same _ _ _);have h4:As B pr (E.with (Y.put n (.vsl (Nat.div (Bs l) 2) 2 l))) (H.set id (.mpl n)) w':=h3.same (λj q hj=>by
  grind [AHeap.get_set_same,AHeap.get_set_ne]) rfl rfl
 have st1:=st.with hv hll hlo;refine ⟨_,.skip,undef,w',?_,.inr ⟨rfl,rfl⟩,Ag.with_leF kk hlo,⟨rfl,rfl,hy.res⟩,⟨st1.t,h4,st1.d⟩,GG _⟩;simp_all [execOp]
omit [Gl]in
def jg {P:Program} {kt:TypeId} {k v:AV}:∀{es:List (AV×AV×Nat)} {i:Nat} {l:List AV},Lk P kt k v (B8 es)=some l->
  (∃j q a,Fz P kt k es i=some (some (i+j,q,a))/\QU k q=true/\B8 (Kz es j k v)=l)\/(Fz P kt k es i=some none/\∀c,B8 (HV es (k,v,c))=l)
 |[],i,l,h=>by simp only [B8,Lk,A6]at h;subst h;exact .inr ⟨rfl,λc=>rfl⟩
 |(q,x,b)::es,i,l,h=>by
  simp only [B8,Lk,VK]at h;split at h;rename_i hq;split at h;rename_i hb;cases h;exact .inl ⟨0,q,x,by simp_all [Fz],hb,rfl⟩;cases h
  .rename_i hq;split at h
   .rename_i l' hl;cases h;rcases jg (i:=i+1) hl with ⟨j,q',a,g1,g2,g3⟩|⟨g1,g2⟩
    .refine .inl ⟨j+1,q',a,?_,g2,by simp only [Kz,B8,g3]⟩;simp only [Fz,hq];rw [show Nat.succ i=i+1 from rfl,g1]
     congr 3
     omega
    refine .inr ⟨?_,λc=>by simp only [HV,B8,g2]⟩;simp only [Fz,hq];exact g1
   cases h
  cases h
def wD (P:Program) (t:TypeId):Bool:=match P.underlying t with
 |some (.map kt _)=>match P.underlying kt with
  |some d=>H9 d
  |none=>false
 |_=>false
def WK (P:Program) (T:Tm) (H:AHeap) (o:Oper):Option (Nat×XOp×List AV):=match o.op with
 | .mapUpdate t m k x=>match look T m with
   | .map id=>match H.get id with
     |some (.mpl i)=>match Bh (look T k)&&Bh (look T x)with
      |true=>some (id,.mpu t,[.sym i,look T k,look T x])
      |false=>none
     |_=>none
   |_=>none
 |_=>none
def ru_ {P:Program} {N kk:Nat} {o:Oper} {T:Tm} {H:AHeap} {id n:Nat} {op:XOp} {ag:List AV} (ha:WK P T H o=some (id,op,ag)) {Y:Sy} (hf:AA Y n) {r:AV} (hr:op.run P (An Y.v ag)=some r) (hok:okC r=true)
  {B:World} {pr:Nat->Prop} {E:Ag} {a:Act} {w:World} (hy:E.At Y) (st:St P B pr N E T H [] a w):
  ∃E' nx v w',(execOp a.eval o).run P w=.ok nx w'/\(nx=.value v\/(nx=.skip/\v=undef))/\E.leF kk E'/\E'.At (Y.put n r)/\St P B pr N E' T (H.set id (.mpl n)) [] a w'/\Ac E' (.tup []) v:=by
 unfold WK at ha;split at ha
 case h_2=>cases ha
 rename_i t m k x ho;split at ha
 case h_2=>cases ha
 rename_i id' hm;split at ha
 case h_2=>cases ha
 rename_i i hk;split at ha
 case h_2=>cases ha
 rename_i hs;cases ha;obtain ⟨s1,s2⟩:=Au hs;have hlt:=AHeap.get_lt hk;simp only [An,XOp.run]at hr;split at hr
 case h_2=>cases hr
 rename_i kt et ht;split at hr
 case h_2=>cases hr
 rename_i d hkd;split at hr
 case h_2=>cases hr
 rename_i hko;split at hr
 case h_2=>cases hr
 rename_i nn z cs hiv;split at hr
 case h_2=>cases hr
 rename_i hz;obtain ⟨hz,_⟩:=Au hz;have hz:=za' hz;subst hz;split at hr
 case h_2=>cases hr
 rename_i l hl;cases hr;have hv:∀i x,E.sy i=some x->(Y.put n (.vsl (Nat.div (Bs l) 2) 2 l)).v i=some x:=λi x hx=>hf.sub_put _ i x (by rw [←hy.v];exact hx);have hll:∀i x,E.syl i=some x->(Y.put n (.vsl (Nat.div (Bs l) 2) 2 l)).l i=some x:=λi x hx=>by rw [hy.l]at hx;exact hx
 have hlo:∀i,i<64->(Y.put n (.vsl (Nat.div (Bs l) 2) 2 l)).v i=E.sy i:=λi hi=>by rw [hy.v];exact hf.low _ i hi
 have hyi:Y.v i=some (.vsl nn 2 cs):=by
  grind [Ar]
 obtain ⟨es,clock,hrX,hfl,hlen⟩:=st.r.expandM hk (by rw [hy.v];exact hyi);have ck:Ac E (Ar E.sy (look T k)) (a.eval k):=(CZ s1 (st.t.look k)).con;have cx:Ac E (Ar E.sy (look T x)) (a.eval x):=(CZ s2 (st.t.look x)).con;have cm:Ac E (.map id) (a.eval m):=by rw [←hm];exact st.t.look m
 rw [←hy.v]at hko hl;rw [←hfl]at hl;have hgX:(H.set id (.map es clock)).get id=some (.map es clock):=AHeap.get_set_same H hlt _;have key:∃es2 c2,IJ P (H.set id (.map es clock)) t (.map id) (Ar E.sy (look T k)) (Ar E.sy (look T x))=some (.tup [],(H.set id (.map es clock)).set id (.map es2 c2))/\B8 es2=l:=by obtain ⟨hn,_⟩:=Au hko;have hkf:Il d (Ar E.sy (look T k))=false:=(by cases d<;>first|rfl|(simp [H9]at hn));unfold IJ;rcases jg (i:=0) hl with ⟨j,q,a',g1,g2,g3⟩|⟨g1,g2⟩;refine ⟨Kz es j _ _,clock,?_,g3⟩;simp only [ht,hkd,hkf,Rf,hko,hgX,g1,g2,Cu];refine ⟨HV es (_,_,clock),Nat.succ clock,?_,g2 _⟩;simp only [ht,hkd,hkf,Rf,hko,hgX,g1]
 obtain ⟨es2,c2,hev,hfl2⟩:=key;obtain ⟨w',h1,h2,_⟩:=UV hrX cm ck cx hev;have hokl:Ak l=true:=by grind [okC]
 have hg2:((H.set id (.map es clock)).set id (.map es2 c2)).get id=some (.map es2 c2):=AHeap.get_set_same _ hlt _;have hl2:Nat.div (Bs l) 2=es2.length:=by rw [BW,←hfl2,aY];show es2.length*2/2=_;omega
 have h3:=(h2.with hv hll).collapseM (n:=n) hg2 (by grind [EP]) (Yq (by rw [hfl2];exact hokl)) (by rw [hfl2,EF _ hokl,←hl2];exact Sy.put_same _ _ _);have h4:As B pr (E.with (Y.put n (.vsl (Nat.div (Bs l) 2) 2 l))) (H.set id (.mpl n)) w':=h3.same (λj q hj=>by
  grind [AHeap.get_set_same,AHeap.get_set_ne]) rfl rfl
 have st1:=st.with hv hll hlo;refine ⟨_,.skip,undef,w',?_,.inr ⟨rfl,rfl⟩,Ag.with_leF kk hlo,⟨rfl,rfl,hy.res⟩,⟨st1.t,h4,st1.d⟩,GG _⟩;simp_all [execOp]
def sP (o:Oper):TypeId:=match o.op with
 | .mapUpdate t _ _ _=>t
 |_=>0
def Yh (P:Program) (T:Tm) (H:AHeap) (o:Oper):Option (Nat×XOp×List AV):=match wD P (sP o)with
 |true=>WK P T H o
 |false=>Ym P T H o
def xn {P:Program} {N kk:Nat} {o:Oper} {T:Tm} {H:AHeap} {id n:Nat} {op:XOp} {ag:List AV} (ha:Yh P T H o=some (id,op,ag)) {Y:Sy} (hf:AA Y n) {r:AV} (hr:op.run P (An Y.v ag)=some r) (hok:okC r=true)
  {B:World} {pr:Nat->Prop} {E:Ag} {a:Act} {w:World} (hy:E.At Y) (st:St P B pr N E T H [] a w):
  ∃E' nx v w',(execOp a.eval o).run P w=.ok nx w'/\(nx=.value v\/(nx=.skip/\v=undef))/\E.leF kk E'/\E'.At (Y.put n r)/\St P B pr N E' T (H.set id (.mpl n)) [] a w'/\Ac E' (.tup []) v:=by
 unfold Yh at ha;split at ha;exact ru_ ha hf hr hok hy st;exact xp ha hf hr hok hy st
def bD (T:Tm) (H:AHeap) (o:Oper):Option (XOp×List AV):=match o.op with
 | .call c=>match c.callee with
   | .builtin b=>match b with
     | .len=>match c.args.toList,c.argTypes.toList with
       |[x],[t]=>match look T x with
        | .map id=>match H.get id with
          |some (.mpl i)=>some (.mlen,[.sym i])
          |_=>none
        |_=>none
       |_,_=>none
     |_=>none
   |_=>none
 |_=>none
def YU (P:Program) (o:Oper):Bool:=match o.op with
 | .call c=>match c.argTypes.toList with
   |[t]=>match P.underlying t with
    |some (.map _ _)=>true
    |_=>false
   |_=>false
 |_=>false
theorem yl {P:Program} {N:Nat} {o:Oper} {T:Tm} {H:AHeap} {op:XOp} {ag:List AV} (ha:bD T H o=some (op,ag)) (hmt:YU P o=true) {Y:Sy} {r:AV} (hr:op.run P (An Y.v ag)=some r)
  {B:World} {pr:Nat->Prop} {E:Ag} {a:Act} {w:World} {D:Bj} (hy:E.At Y) (st:St P B pr N E T H D a w):
  ∃E' n v w',(execOp a.eval o).run P w=.ok n w'/\(n=.value v\/(n=.skip/\v=undef))/\E.le E'/\St P B pr N E' T H D a w'/\Ac E' r v:=by
 unfold bD at ha;split at ha
 case h_2=>cases ha
 rename_i c ho;split at ha
 case h_2=>cases ha
 rename_i b hc;split at ha
 case h_2=>cases ha
 split at ha
 case h_2=>cases ha
 rename_i x t h1 h2;split at ha
 case h_2=>cases ha
 rename_i id hx;split at ha
 case h_2=>cases ha
 rename_i i hk;cases ha;unfold YU at hmt;simp only [ho,h2]at hmt;split at hmt
 case h_2=>cases hmt
 rename_i kt et ht;simp only [An,XOp.run]at hr;split at hr
 case h_2=>cases hr
 rename_i nn z cs hiv;split at hr
 case h_2=>cases hr
 cases hr;have hyi:E.sy i=some (.vsl nn z cs):=by
  rw [hy.v]
  grind [Ar]
 have cx:=st.t.look x;rw [hx]at cx;obtain ⟨b,hφ,hval⟩:=cx;obtain ⟨_,n',cs',f3,es',c0,f4,f5,_⟩:=st.r.blk hk hφ;have hgo:(getObj b).run P w=.ok (.map es' c0) w:=by simp [getObj,Sem.run,f4]
 refine ⟨E,.value (.int .i64 (.ofNat nn)),_,w,?_,.inl rfl,Ag.le_refl E,st,by simp [Ac]⟩;obtain ⟨callee,cargs,ctypes⟩:=c;have h1:=Dt h1;have h2:=Dt h2;subst hc h1 h2;unfold execOp;simp only [ho,resolve,Sem.run_bind,Sem.run_pure,Result.andThen_ok,invoke,builtin];simp_all [Builtin.len_,run_underlying,goInt]
end
section
variable [Gl]
def Nw (T:Tm) (H:AHeap) (o:Oper):Option (XOp×List AV):=match o.op with
 | .convert s d x=>match look T x with
   | .sl id off len sz cap=>match len with
     |0=>none
     |n+1=>match Cx H (.sl id off (Nat.succ n) sz cap) (Nat.succ n) 1 with
      |some l=>match Bm l&&Nat.beq (Bs l) (Nat.succ n)with
       |true=>some (.conv s d,[.vsl (Nat.succ n) 1 l])
       |false=>none
      |none=>none
   |_=>none
 |_=>none
omit [Gl]in
theorem lg (s:Nat->Option AV):∀l:List AV,(An s l).length=l.length
 |[]=>rfl
 |a::r=>by simp only [An,List.length_cons,lg s r]
omit [Gl]in
theorem ul {P:Program} {B:World} {pr:Nat->Prop} {E:Ag} {H:AHeap} {w:World} (hr:As B pr E H w) {src dst:TypeId} {id off n sz:Nat} {cap:Option Nat} {v:Value} {l:List AV} (hx:Ac E (.sl id off (n+1) sz cap) v)
  (hl:Cx H (.sl id off (n+1) sz cap) (n+1) 1=some l) (hso:Bm l=true) (hln:l.length=n+1) {r:AV} (h:NK P h0 src dst (.vsl (n+1) 1 (An E.sy l))=some r):Gives P B pr E w (convert src dst v) (r,H):=by
 unfold NK at h;split at h
 case h_2=>cases h
 rename_i e hs hd;split at h
 case h_2=>cases h
 rename_i he;have hl2:Cx h0 (.vsl (n+1) 1 (An E.sy l)) (n+1) 1=some (An E.sy l):=by
  show CJ (Nat.mul (n+1) 1) _=_;have e1:Nat.mul (n+1) 1=(An E.sy l).length:=(by simp_all [lg]);rw [e1];have:∀q:List AV,CJ q.length q=some q:=λq=>by
   induction q<;>grind [List.length_cons,CJ]
  exact this _
 simp only [C4,hl2]at h;split at h
 case h_2=>cases h
 split at h
 case h_2=>cases h
 rename_i s hbs;cases h;obtain ⟨vs,hf,hL,_⟩:=HQ (P:=P) hr hx (m:=n+1) rfl (zc' _) hl;obtain ⟨ns,rfl,hns⟩:=Xd hbs (JA hso hL).con;obtain ⟨b,o,m,c,off',_,_,rfl,_⟩:=hx;have hlc:(loadCells ⟨b,o+off',none⟩ (n+1)).run P w=.ok (ns.map (Value.int .u8)).toArray w:=by
  have hf':(loadCells ⟨b,o+off',none⟩ ((n+1)*1)).run P w=.ok (ns.map (Value.int .u8)).toArray w:=hf
  grind
 refine Gives.still hr (v:=.string ⟨⟨s⟩⟩) ?_ (by simp [Ac]);rw [run_convert_bytes_string w src dst e _ _ c hs he hd,run_bytesToString w _ _ c ns hlc];have e1:ns.foldl (λr n=>r.push (UInt8.ofNat n.toNat)) ByteArray.empty=(ns.map (λn=>UInt8.ofNat n.toNat)).foldl (λr b=>r.push b) ByteArray.empty:=by rw [List.foldl_map]
 simp_all [fP]
def kU {P:Program} {B:World} {pr:Nat->Prop} {E:Ag} {T:Tm} {H:AHeap} {w:World} (hr:As B pr E H w) {σ:Operand->Value} (hσ:∀x,Ac E (look T x) (σ x)) {o:Oper} {op:XOp} {ag:List AV}
  (ha:Nw T H o=some (op,ag)) {r:AV} (h:op.run P (An E.sy ag)=some r):Bi P B pr E w (execOp σ o) (.val r H):=by
 unfold Nw at ha;split at ha
 case h_2=>cases ha
 rename_i s d x ho;split at ha
 case h_2=>cases ha
 rename_i id off len sz cap hx;split at ha
 case h_1=>cases ha
 rename_i n;split at ha
 case h_2=>cases ha
 rename_i l hl;split at ha
 case h_2=>cases ha
 rename_i hb;cases ha;obtain ⟨hso,hln⟩:=Au hb;have hln:=za' hln;rw [BW]at hln;have h:Gw P h0 s d (.vsl (n+1) 1 (An E.sy l))=some r:=h;have hbs:NK P h0 s d (.vsl (n+1) 1 (An E.sy l))=some r:=by
  unfold Gw at h;have e1:OY P s d (.vsl (n+1) 1 (An E.sy l))=none:=by
   grind [OY]
  rw [e1]at h;simp only at h;split at h
  .grind
  cases h
 grind [execOp,Bi.of_gives,ul]
theorem vV {P:Program} {N:Nat} {o:Oper} {T:Tm} {H:AHeap} {op:XOp} {ag:List AV} (ha:Nw T H o=some (op,ag)) {Y:Sy} {r:AV} (hr:op.run P (An Y.v ag)=some r)
  {B:World} {pr:Nat->Prop} {E:Ag} {a:Act} {w:World} {D:Bj} (hy:E.At Y) (st:St P B pr N E T H D a w):
  ∃E' n v w',(execOp a.eval o).run P w=.ok n w'/\(n=.value v\/(n=.skip/\v=undef))/\E.le E'/\St P B pr N E' T H D a w'/\Ac E' r v:=by
 obtain ⟨E',n,v,w',h1,h2,h3,h4,h5⟩:=kU st.r (λx=>st.t.look x) ha (by rw [hy.v];exact hr);exact ⟨E',n,v,w',h1,h2,h3,⟨st.t.mono h3,h4,st.d.mono h3⟩,h5⟩
end
section
def OK (H:AHeap) (sz:Nat) (a:AV):Option (Nat×AV):=match a with
 | .nsl=>some (H.next,.nsl)
 | .sl id off len sz' cap=>match H.get id with
   |some (.cells cs)=>match Nat.beq off 0&&(Nat.beq sz' sz&&(Nat.beq (Bs cs) (Nat.mul len sz)&&(Bm cs&&Dc cs)))with
    |true=>some (id,.vsl len sz cs)
    |false=>none
   |_=>none
 |_=>none
def aW {E:Ag} {H:AHeap} {sz:Nat} {x b:AV} {xv:Value} (hx:Ac E x xv) (h:Ln H sz x=some b) {n:Nat} {l:List AV} (hb:DF sz (Ar E.sy b)=some (n,l)) (hok:Ak l=true):
  ∃xa l',Ac E xa xv/\C4 xa=some n/\Cx H xa n sz=some l'/\Dc l'=true/\Bm l'=true/\l=An E.sy l':=by
 have closed:∀b,Bh b=true->x=b->(∀l,Ar E.sy b≠ .agg l)->DF sz (Ar E.sy b)=some (n,l)->∃xa l',Ac E xa xv/\C4 xa=some n/\Cx H xa n sz=some l'/\Dc l'=true/\Bm l'=true/\l=An E.sy l':=by
  intro b hs e hna hb;subst e;have hc0:=CZ hs hx;have hoff:=dE hc0;have:∃n',C4 (Ar E.sy x)=some n'/\∃l',Cx ⟨AE,0,0⟩ (Ar E.sy x) n' sz=some l'/\n=n'/\l=l':=by
   unfold DF at hb
   grind
  obtain ⟨_,h1,_,h2,rfl,rfl⟩:=this;refine ⟨_,l,hc0.con,h1,?_,X8.okL_allOne hok,EP hok,(EF _ hok).symm⟩
  grind [iY]
 unfold Ln at h;split at h;rename_i id2 off len sz' cap;split at h;rename_i l' hl;split at h;rename_i hbb;cases h;obtain ⟨b1,hbb⟩:=Au hbb;obtain ⟨b2,hbb⟩:=Au hbb;obtain ⟨b3,b4⟩:=Au hbb;have b3:=za' b3;rw [BW]at b3;have b3:l'.length=len*sz:=b3;have b4:0<sz:=(by simp_all);simp only [Ar,DF,A6,Prod.mk.injEq]at hb;obtain ⟨e1,e2⟩:=hb;have e1:(An E.sy l').length/sz=n:=(by rw [←e1,BW];rfl);rw [IM,b3,Nat.mul_div_cancel _ b4]at e1;subst e1;exact ⟨_,l',hx,rfl,hl,b2,b1,e2.symm⟩;cases h;cases h;cases h;refine closed _ rfl rfl (λl e=>?_) hb;have hx':=hx;obtain ⟨a,q1,q2,_⟩:=hx';simp only [Ar,q1]at e;subst e;cases q2;split at h;rename_i hs;cases h;exact closed _ (by grind [Bh]) rfl (λl e=>by simp [Ar]at e) hb;cases h;cases h;exact closed _ rfl rfl (λl e=>by simp [Ar]at e) hb;cases h;exact closed _ rfl rfl (λl e=>by simp [Ar]at e) hb;cases h
section
variable {P:Program} {B:World} {pr:Nat->Prop} {E:Ag} {H:AHeap} {w:World}
def mE (hr:As B pr E H w) {id sz n m:Nat} {xa sa sd:AV} {l:List AV} {t tx ty e:TypeId} {info:TypeInfo} {z:Value} {dx:TypeDesc} {sv xv:Value} {r:AV}
  (ht:P.underlying t=some (.slice e)) (hi:P.info? e=some info) (hz:info.zero=some z) (htx:P.underlying tx=some dx) (hnot:JX dx=true) (hzl:Nat.beq (Bs (Ch z)) info.size=true) (hsz:info.size=sz)
  (hs:Ac E sa sv) (hx:Ac E xa xv) (hh:OK H sz sa=some (id,sd)) (hroom:H.room=true)
  (hm:C4 xa=some m) (hl:Cx H xa m sz=some l) (hone:Dc l=true) (hlok:Bm l=true)
  (hrr:El sz info.bytes (Ar E.sy sd) m (An E.sy l)=some r) (hrok:okC r=true) (hn:E.sy n=some r):
  ∃E' v w',(Builtin.append_ #[t,tx] ty #[sv,xv]).run P w=.ok v w'/\E.sub E'/\E'.bim=E.bim/\((∀id,E.res id->E.vd id)->∀id,E'.res id->E'.vd id)/\As B pr E' ((H.erase id).push (.syl n)) w'/\Ac E' (.slx H.next sz n) v/\(0<m->E.le E'):=by
 subst hsz;obtain ⟨r1,r2,r3⟩:=As.room hroom;unfold El at hrr;split at hrr;cases hrr;rename_i hlen;have hlen:(An E.sy l).length=m*info.size:=AU hlen;rw [IM]at hlen;have hlb:Nat.beq (Bs l) (Nat.mul m info.size)=true:=by grind [BW,zk']
 unfold OK at hh;split at hh
 ·
  cases hh;simp only [Ar]at hrr;have hsame:∀j k,((H.erase H.next).push (.syl n)).get j=some k->(H.push (.syl n)).get j=some k:=λj k hj=>by
   by_cases e:H.next=j
   .have e1:((H.erase H.next).push (.syl n)).get H.next=some (.syl n):=AHeap.get_push_same (H.erase H.next) r2 _
    grind [AHeap.get_push_same]
   .have e1:((H.erase H.next).push (.syl n)).get j=(H.erase H.next).get j:=AHeap.get_push_ne (H.erase H.next) r2 e _
    grind [AHeap.get_erase_ne,AHeap.get_push_ne]
  cases m with
  |zero=>
   simp only [A6]at hrr;subst hrr;have hev:DN P H t tx .nsl xa=some (.nsl,H):=by simp_all [DN]
   obtain ⟨E',v,w',g1,g2,g3,g4⟩:=H8 (ty:=ty) hr hs hx hev;have hvn:=g3.newVoid hroom (n:=n) (by rw [g2.1.2.2.2.1];exact hn);refine ⟨E'.void H.next,v,w',g1,Ag.sub_trans g2.1 (Ag.sub_void _ _),g2.2.2.1,λhat j hj=>?_,hvn.same hsame rfl rfl,?_,λh=>absurd h (zb' 0)⟩;rcases hj with hj|hj;exact .inl (by rw [g2.2.2.2];exact hat j (by rw [←g2.2.1];exact hj));exact .inr hj;exact ⟨.nsl,by show E'.sy n=_;rw [g2.1.2.2.2.1];exact hn,.inl ⟨rfl,g4⟩⟩
  |succ m=>
   simp only at hrr;split at hrr
   .rename_i hb;cases hrr;have hev:DN P H t tx .nsl xa=some (.sl H.next 0 (m+1) info.size none,H.push (.cells l)):=by
     grind [DN,Ga]
    obtain ⟨E',v,w',g1,g2,g3,g4⟩:=H8 (ty:=ty) hr hs hx hev;obtain ⟨k1,k2⟩:=JD (H0:=H) g2.1 g3 g4 r2 hlok hn hrok hlen;exact ⟨E',v,w',g1,g2.1,g2.2.2.1,λhat j hj=>by rw [g2.2.2.2];exact hat j (by rw [←g2.2.1];exact hj),k1.same hsame rfl rfl,k2,λ_=>g2⟩
   cases hrr
 ·
  rename_i id' off len sz' cap;split at hh
  case h_2=>cases hh
  rename_i cs hk;split at hh
  case h_2=>cases hh
  rename_i hb0;cases hh;obtain ⟨b1,hb0⟩:=Au hb0;obtain ⟨b2,hb0⟩:=Au hb0;obtain ⟨b3,hb0⟩:=Au hb0;obtain ⟨b4,b5⟩:=Au hb0;have b1:=za' b1;have b2:=za' b2;have b3:=za' b3;rw [BW]at b3;have hcl:cs.length=len*info.size:=b3;subst b1 b2;simp only [Ar]at hrr;split at hrr;cases hrr;have hc0:Ac E (.sl id 0 len info.size none) sv:=by
   grind [Ac]
  cases m with
  |zero=>
   simp only [A6]at hrr;subst hrr;have hev:DN P H t tx (.sl id 0 len info.size none) xa=some (.sl id 0 len info.size none,H):=by simp_all [DN]
   obtain ⟨E',v,w',g1,g2,g3,g4⟩:=H8 (ty:=ty) hr hc0 hx hev;have g4':=g4;obtain ⟨b,o,nn,c,off',q1,q2,q3,q4,q5,q6,_⟩:=g4';obtain ⟨arr,t',f1,f2,f3,f4⟩:=g3.blk hk q1;obtain ⟨p1,p2⟩:=g3.renew hroom hk q1 f1 f3 f4;have hsub:E.sub (E'.bind H.next b o):=Ag.sub_trans g2.1 p1.1;have hcon2:Ac (E'.bind H.next b o) (.sl H.next 0 len info.size none) v:=(by simp_all [Ac,Ag.bind]);obtain ⟨k1,k2⟩:=JD (H0:=H.erase id) hsub p2 hcon2 r2 b4 hn hrok hcl;exact ⟨_,v,w',g1,hsub,g2.2.2.1,λhat j hj=>by show E'.vd j;rw [g2.2.2.2];exact hat j (by rw [←g2.2.1];exact hj),k1,k2,λh=>absurd h (zb' 0)⟩
  |succ m=>
   simp only at hrr;split at hrr
   .rename_i hb;cases hrr;have hlc:Nat.beq (Nat.add 0 (Nat.mul len info.size)) (Bs cs)=true:=by simp_all
    have hroomX:(H.erase id).room=true:=hroom;have hev:DN P H t tx (.sl id 0 len info.size none) xa=some (.sl (H.erase id).next 0 (Nat.add len (m+1)) info.size none,(H.erase id).push (.cells (cs++l))):=(by unfold DN;simp only [ht,hi,hz,htx,hnot,hzl,Bool.and_self,hm,hl,hlb,Nat.beq_refl,hb,hk,hone,hlc,Ga,hroomX,Bk]);obtain ⟨E',v,w',g1,g2,g3,g4⟩:=H8 (ty:=ty) hr hc0 hx hev
    obtain ⟨k1,k2⟩:=JD (H0:=H.erase id) g2.1 g3 g4 r2 (Xm b4 hlok) (by rw [MZ];exact hn) (by rw [MZ];exact hrok) (by
     grind)
    exact ⟨E',v,w',g1,g2.1,g2.2.2.1,λhat j hj=>by rw [g2.2.2.2];exact hat j (by rw [←g2.2.1];exact hj),k1,k2,λ_=>g2⟩
   cases hrr
 cases hh
end
variable [Gl]
def Hm (P:Program) (T:Tm) (H:AHeap) (o:Oper):Option (Nat×Nat×XOp×List AV):=match o.op with
 | .call c=>match c.callee with
   | .builtin b=>match b with
     | .append=>match c.args.toList,c.argTypes.toList with
       |[s,x],[t,tx]=>match H.room with
        |true=>match P.underlying t with
         |some (.slice e)=>match P.info? e with
          |some info=>match info.zero with
           |some z=>match P.underlying tx with
            |some dx=>match JX dx&&Nat.beq (Bs (Ch z)) info.size with
               |true=>match OK H info.size (look T s)with
                |some (id,sd)=>match Ln H info.size (look T x)with
                 |some b=>some (id,info.size,.app info.size info.bytes,[sd,b])
                 |none=>none
                |none=>none
               |false=>none
            |none=>none
           |none=>none
          |none=>none
         |_=>none
        |false=>none
       |_,_=>none
     |_=>none
   |_=>none
 |_=>none
def w9 {P:Program} {N k:Nat} {o:Oper} {T:Tm} {H:AHeap} {id sz n:Nat} {op:XOp} {ag:List AV} (ha:Hm P T H o=some (id,sz,op,ag)) {Y:Sy} (hf:AA Y n) {r:AV} (hr:op.run P (An Y.v ag)=some r) (hok:okC r=true)
  {B:World} {pr:Nat->Prop} {E:Ag} {a:Act} {w:World} (hy:E.At Y) (st:St P B pr N E T H [] a w):
  ∃E' nx v w',(execOp a.eval o).run P w=.ok nx w'/\(nx=.value v\/(nx=.skip/\v=undef))/\E.leF k E'/\E'.At (Y.put n r)/\St P B pr N E' T ((H.erase id).push (.syl n)) [] a w'/\Ac E' (.slx H.next sz n) v:=by
 unfold Hm at ha;split at ha
 case h_2=>cases ha
 rename_i c ho;split at ha
 case h_2=>cases ha
 rename_i b hc;split at ha
 case h_2=>cases ha
 split at ha
 case h_2=>cases ha
 rename_i s x t tx h1 h2;split at ha
 case h_2=>cases ha
 rename_i hroom;split at ha
 case h_2=>cases ha
 rename_i e ht;split at ha
 case h_2=>cases ha
 rename_i info hi;split at ha
 case h_2=>cases ha
 rename_i z hz;split at ha
 case h_2=>cases ha
 rename_i dx htx;split at ha
 case h_2=>cases ha
 rename_i hb;split at ha
 case h_2=>cases ha
 rename_i id' sd hh;split at ha
 case h_2=>cases ha
 rename_i bb harg;cases ha;obtain ⟨hnot,hzl⟩:=Au hb;have hv:∀i x,E.sy i=some x->(Y.put n r).v i=some x:=λi x hx=>hf.sub_put r i x (by rw [←hy.v];exact hx);have hll:∀i l,E.syl i=some l->(Y.put n r).l i=some l:=λi l hx=>by rw [hy.l]at hx;exact hx
 have hlo:∀i,i<64->(Y.put n r).v i=E.sy i:=λi hi=>by rw [hy.v];exact hf.low r i hi
 have st1:=st.with hv hll hlo;have cs:=st1.t.look s;have cx:=st1.t.look x;simp only [An,XOp.run]at hr;split at hr
 case h_2=>cases hr
 rename_i m l hm;obtain ⟨xa,l',x1,x2,x3,x4,x5,rfl⟩:=aW (st.t.look x) harg (n:=m) (l:=l) (by rw [hy.v];exact hm) (V0 hr hok);have x1':Ac (E.with (Y.put n r)) xa (a.eval x):=x1.with hv hll;have hl2:An (E.with (Y.put n r)).sy l'=An E.sy l':=by obtain ⟨vs,_,hcl,_⟩:=HQ (P:=P) st.r x1 x2 (zc' _) x3;exact KG hv hcl
 have hsd:Ar (E.with (Y.put n r)).sy sd=Ar Y.v sd:=by
  have hcs:=st.t.look s;rw [←hy.v];unfold OK at hh;split at hh;cases hh;rfl
  .rename_i id2 off len sz2 cap hlook;split at hh
   case h_2=>cases hh
   rename_i cs2 hk;split at hh
   case h_2=>cases hh
   cases hh;rw [hlook]at hcs;obtain ⟨b2,o2,nn,c2,off2,q1,_⟩:=hcs;obtain ⟨arr,t2,f1,f2,f3,f4⟩:=st.r.blk hk q1;simp only [Ar]
   congr 1
   apply List.ext_getElem?;intro j;rw [Lq,Lq];cases hj:cs2[j]? with
   |none=>rfl
   |some y=>obtain ⟨vv,_,q⟩:=f4 j y hj;simp only [Option.map_some,A6];exact Vp hv q
  cases hh
 obtain ⟨E',v,w',g1,g2,g3,g4,g5,g6,_⟩:=mE (ty:=o.type) st1.r (n:=n) ht hi hz htx hnot hzl rfl cs x1' hh hroom x2 x3 x4 x5 (by grind) hok (Sy.put_same _ _ _);obtain ⟨callee,cargs,ctypes⟩:=c;have h1:=Dt h1;have h2:=Dt h2;subst hc h1 h2
 refine ⟨E',.value v,v,w',?_,.inl rfl,(Ag.with_leF k hlo).trans ⟨λi x _ hx=>g2.1 i x hx,g2.2.1,g2.2.2.1,g3,λi _=>by rw [g2.2.2.2.1]⟩,⟨g2.2.2.2.1,g2.2.2.2.2,g4 hy.res⟩,
  ⟨⟨st1.t.size,st1.t.le,λt ht=>(st1.t.con t ht).sub g2,st1.t.gl.sub g2⟩,g5,st1.d.sub g2⟩,g6⟩
 unfold execOp
 grind [resolve,Sem.run_bind,Sem.run_pure,Result.andThen_ok,invoke,builtin]
def zO {P:Program} {N:Nat} {o:Oper} {T:Tm} {H:AHeap} {id sz n:Nat} {op:XOp} {ag:List AV} (ha:Hm P T H o=some (id,sz,op,ag)) {r:AV} (hok:okC r=true)
  {B:World} {pr:Nat->Prop} {E:Ag} {a:Act} {w:World} (hpos:LM ag=true\/∃i,HG ag=some i/\Iu E.sy i) (hr:op.run P (An E.sy ag)=some r) (hn:E.sy n=some r) (hT:Bf E N T a.tmps) (hrel:As B pr E H w):
  ∃E' v w',(execOp a.eval o).run P w=.ok (.value v) w'/\E.le E'/\As B pr E' ((H.erase id).push (.syl n)) w'/\Ac E' (.slx H.next sz n) v:=by
 unfold Hm at ha;split at ha
 case h_2=>cases ha
 rename_i c ho;split at ha
 case h_2=>cases ha
 rename_i b hc;split at ha
 case h_2=>cases ha
 split at ha
 case h_2=>cases ha
 rename_i s x t tx h1 h2;split at ha
 case h_2=>cases ha
 rename_i hroom;split at ha
 case h_2=>cases ha
 rename_i e ht;split at ha
 case h_2=>cases ha
 rename_i info hi;split at ha
 case h_2=>cases ha
 rename_i z hz;split at ha
 case h_2=>cases ha
 rename_i dx htx;split at ha
 case h_2=>cases ha
 rename_i hb;split at ha
 case h_2=>cases ha
 rename_i id' sd hh;split at ha
 case h_2=>cases ha
 rename_i bb harg;cases ha;obtain ⟨hnot,hzl⟩:=Au hb;have cs:=hT.look s;simp only [An,XOp.run]at hr;split at hr
 case h_2=>cases hr
 rename_i m l hm;obtain ⟨xa,l',x1,x2,x3,x4,x5,rfl⟩:=aW (hT.look x) harg (n:=m) (l:=l) hm (V0 hr hok);obtain ⟨E',v,w',g1,g2,g3,g4,g5,g6,g7⟩:=mE (ty:=o.type) hrel (n:=n) ht hi hz htx hnot hzl rfl cs x1 hh hroom x2 x3 x4 x5 hr hok hn;have hm0:0<m:=by
  rcases hpos with hpos|⟨i,hi,nn,zz,cc,hcc⟩
  rotate_left
  .cases bb with
   |sym k=>
    cases hi;simp only [Ar,hcc,Option.getD_some,DF,C4]at hm
    grind
   |_=>cases hi
  cases bb with
  |vsl n0 z0 c0=>
   have hp:0<n0:=by have:Nat.blt 0 n0=true:=hpos;simp_all
   grind [Ar,DF,C4]
  |agg l0=>
   have hp:0<l0.length:=by
    have:Nat.blt 0 (Bs l0)=true:=hpos
    grind [BW,ze']
   have hm1:=(Prod.mk.inj (Option.some.inj hm)).1;rw [←hm1];obtain ⟨h0,len,hl⟩:=ge harg;rw [BW,IM,hl];show 0<len*info.size/info.size;simp_all
  |_=>cases hpos
 obtain ⟨callee,cargs,ctypes⟩:=c;have h1:=Dt h1;have h2:=Dt h2;subst hc h1 h2;refine ⟨E',v,w',?_,g7 hm0,g5,g6⟩;unfold execOp
 grind [resolve,Sem.run_bind,Sem.run_pure,Result.andThen_ok,invoke,builtin]
def KB (R:Tm) (o:Oper):AV:=match o.op with
 | .call c=>match c.args.toList with
   |[s,_]=>match look R s with
    | .sl id _ len z _=>.sl id 0 len z none
    | .nsl=>.nsl
    |_=>.opq
   |_=>.opq
 |_=>.opq
def M8 (s:Nat->Option AV) (i:Nat):Prop:=s i=some .nsl\/∃z cs,s i=some (.vsl 0 z cs)
def wC {P:Program} {N:Nat} {o:Oper} {T:Tm} {H:AHeap} {id sz i:Nat} {op:XOp} {ag:List AV} (ha:Hm P T H o=some (id,sz,op,ag)) (hs:HG ag=some i)
  {B:World} {pr:Nat->Prop} {E:Ag} {a:Act} {w:World} (he:M8 E.sy i) (hT:Bf E N T a.tmps) (hrel:As B pr E H w):
  ∃E' v w',(execOp a.eval o).run P w=.ok (.value v) w'/\E.le E'/\As B pr E' H w'/\Ac E' (KB T o) v:=by
 unfold Hm at ha;split at ha
 case h_2=>cases ha
 rename_i c ho;split at ha
 case h_2=>cases ha
 rename_i b hc;split at ha
 case h_2=>cases ha
 split at ha
 case h_2=>cases ha
 rename_i s x t tx h1 h2;split at ha
 case h_2=>cases ha
 rename_i hroom;split at ha
 case h_2=>cases ha
 rename_i e ht;split at ha
 case h_2=>cases ha
 rename_i info hi;split at ha
 case h_2=>cases ha
 rename_i z hz;split at ha
 case h_2=>cases ha
 rename_i dx htx;split at ha
 case h_2=>cases ha
 rename_i hb;split at ha
 case h_2=>cases ha
 rename_i id' sd hh;split at ha
 case h_2=>cases ha
 rename_i bb harg;cases ha;obtain ⟨hnot,hzl⟩:=Au hb;have hbb:bb=.sym i:=by cases bb<;>first|(cases hs;done)|(cases hs;rfl)
 subst hbb;have cs:=hT.look s;obtain ⟨xa,l',x1,x2,x3,x4,x5,hl'⟩:=aW (hT.look x) harg (n:=0) (l:=[]) (by
  rcases he with he|⟨z,cs,he⟩;simp only [Ar,he,Option.getD_some];rfl
  .have h0:Nat.mul 0 info.size=0:=Nat.zero_mul _;simp only [Ar,he,Option.getD_some,DF,C4,Cx,h0];rfl) rfl
 have hl0:l'=[]:=by
  grind [IM]
 subst hl0;have hlb:Nat.beq (Bs ([]:List AV)) (Nat.mul 0 info.size)=true:=by simp [BW]
 have hq:∃E' v w',(Builtin.append_ #[t,tx] o.type #[a.eval s,a.eval x]).run P w=.ok v w'/\E.le E'/\As B pr E' H w'/\Ac E' (KB T o) v:=by
  unfold KB;rw [ho];simp only [h1];unfold OK at hh;split at hh
  .rename_i hlk;rw [hlk]at cs⊢;have hev:DN P H t tx .nsl xa=some (.nsl,H):=by
    unfold DN
    grind
   exact H8 (ty:=o.type) hrel cs x1 hev
  .rename_i id2 off len sz2 cap hlk;split at hh
   case h_2=>cases hh
   split at hh
   case h_2=>cases hh
   rename_i hb0;obtain ⟨b1,hb0⟩:=Au hb0;obtain ⟨b2,hb0⟩:=Au hb0;have b1:=za' b1;have b2:=za' b2;subst b1 b2;rw [hlk]at cs⊢;have hc0:Ac E (.sl id2 0 len info.size none) (a.eval s):=by
    grind [Ac]
   have hev:DN P H t tx (.sl id2 0 len info.size none) xa=some (.sl id2 0 len info.size none,H):=(by unfold DN;simp only [ht,hi,hz,htx,hnot,hzl,Bool.and_self,x2,x3,hlb,Nat.beq_refl]);exact H8 (ty:=o.type) hrel hc0 x1 hev
  cases hh
 obtain ⟨E',v,w',g1,g2,g3,g4⟩:=hq;obtain ⟨callee,cargs,ctypes⟩:=c;have h1:=Dt h1;have h2:=Dt h2;subst hc h1 h2;refine ⟨E',v,w',?_,g2,g3,g4⟩;unfold execOp
 grind [resolve,Sem.run_bind,Sem.run_pure,Result.andThen_ok,invoke,builtin]
def aQ (P:Program) (T:Tm) (o:Oper):Option (XOp×List AV):=match o.op with
 | .call c=>match c.callee with
   | .value f=>match f with
     | .func id=>match IX P id with
       |false=>match c.args.toList with
        |[x]=>match Bh (look T x)with
         |true=>some (.ext id,[look T x])
         |false=>none
        |_=>none
       |true=>none
     |_=>none
   |_=>none
 |_=>none
theorem q5_ {P:Program} {N:Nat} {o:Oper} {T:Tm} {H:AHeap} {op:XOp} {ag:List AV} (ha:aQ P T o=some (op,ag)) {Y:Sy} {r:AV} (hr:op.run P (An Y.v ag)=some r)
  {B:World} {pr:Nat->Prop} {E:Ag} {a:Act} {w:World} {D:Bj} (hy:E.At Y) (st:St P B pr N E T H D a w):
  ∃E' n v w',(execOp a.eval o).run P w=.ok n w'/\(n=.value v\/(n=.skip/\v=undef))/\E.le E'/\St P B pr N E' T H D a w'/\Ac E' r v:=by
 unfold aQ at ha;split at ha
 case h_2=>cases ha
 rename_i c ho;split at ha
 case h_2=>cases ha
 rename_i f hf;split at ha
 case h_2=>cases ha
 rename_i id;split at ha
 case h_2=>cases ha
 split at ha
 case h_2=>cases ha
 rename_i x hx;split at ha
 case h_2=>cases ha
 rename_i hs;cases ha;simp only [An,XOp.run]at hr;split at hr
 case h_2=>cases hr
 rename_i u hu;split at hr
 case h_2=>cases hr
 rename_i v hv;cases hr;have hc:=(CZ hs (st.t.look x)).con;rw [hy.v]at hc;have hu':=P3 hu hc;have hrun:=KN hv w;refine ⟨E,.value v,v,w,?_,.inl rfl,Ag.le_refl E,st,J1 E v⟩;have hx:=Dt hx;have ev:a.eval (.func id)=.func (.func id) #[] #[]:=rfl
 grind [execOp,resolve,Deferred.ofValue,invoke]
end
end Go.Sx
