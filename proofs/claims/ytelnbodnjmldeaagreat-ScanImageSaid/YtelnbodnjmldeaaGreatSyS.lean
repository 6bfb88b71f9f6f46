/-
  Arguments that are read: what a reading of FP data gives, as values; the same reading behind a call that has laid new blocks alone.
-/
import Derived.Test.YtelnbodnjmldeaaGreatSxX
import Derived.ChangeReads
import Derived.ChangeArms
import Derived.ChangeShapes
import Derived.WideShapes
set_option linter.all false
open Nat renaming eq_of_beq_eq_true→za',lt_irrefl→zb',le_refl→zc',blt_eq→ze',succ_pos→zi',le_of_lt→zj',beq_refl→zk'
open List renaming mem_cons_of_mem→zd',mem_cons_self→zf',drop_drop→zg',take_append_drop→zh'
namespace Go.Sx
open Go.ChangeShapes Go.WideShapes
inductive Fit (P:Program):TypeId->List AV->Prop
 |bool {t:TypeId} (b:Bool) (h:P.underlying t=some .bool):Fit P t [.bool b]
 |int {t:TypeId} {k:IntKind} (n:Int) (h:P.underlying t=some (.int k)) (hw:(Lit.int k n).wf=true):Fit P t [.int k n]
 |flt {t:TypeId} {k:FloatKind} (n:Nat) (h:P.underlying t=some (.float k)) (hw:(Lit.float k n).wf=true):Fit P t [.flt k n]
 |str {t:TypeId} (s:List UInt8) (h:P.underlying t=some .string) (hl:s.length<=maxLen):Fit P t [.str s]
 |struct {t:TypeId} {fs:Array Field} (parts:List (List AV)) (h:P.underlying t=some (.struct fs)) (hl:parts.length=fs.size)
   (hp:∀(i:Nat) (f:Field) (p:List AV),fs[i]? =some f->parts[i]? =some p->Fit P f.type p):Fit P t parts.flatten
 |array {t:TypeId} {n:Nat} {e:TypeId} (parts:List (List AV)) (h:P.underlying t=some (.array n e)) (hl:parts.length=n)
   (hp:∀p,p∈parts->Fit P e p):Fit P t parts.flatten
def TC (P:Program):List Field->Nat->Nat->Bool
 |[],off,tot=>Nat.beq off tot
 |f::r,off,tot=>Nat.beq f.offset off&&TC P r (off+P.cellsOf f.type) tot
def Lf (P:Program):Nat->TypeId->Bool
 |0,_=>false
 |d+1,t=>match P.underlying t with
  |some .bool=>Nat.beq (P.cellsOf t) 1
  |some (.int _)=>Nat.beq (P.cellsOf t) 1
  |some (.float _)=>Nat.beq (P.cellsOf t) 1
  |some .string=>Nat.beq (P.cellsOf t) 1
  |some (.struct fs)=>TC P fs.toList 0 (P.cellsOf t)&&fs.toList.all λf=>Lf P d f.type
  |some (.array n e)=>Nat.beq (n*P.cellsOf e) (P.cellsOf t)&&Lf P d e
  |_=>false
theorem Vl {E:Ag}:∀{a b:List AV} {u v:List Value},Az E a u->Az E b v->Az E (a++b) (u++v)
 |[],b,u,v,h,h'=>by
  grind [Az]
 |x::a,b,u,v,h,h'=>by obtain ⟨y,r,rfl,h1,h2⟩:=h;exact ⟨y,r++v,rfl,h1,Vl h2 h'⟩
theorem okL_join {a b:List AV} (ha:Ak a=true) (hb:Ak b=true):Ak (a++b)=true:=by
 induction a with
 |nil=>exact hb
 |cons x r ih=>simp_all [CL]
section
variable {H:Type} {enc:TypeId×Value->H} {P:Program} {w:World} {base:Nat} {spare:Nat->Bool} {held:Bool}
def zG {fuel:Nat} {t:TypeId} {cs:List Value} {x:DataW H×List MemPlace} {k:FloatKind} (ht:P.underlying t=some (.float k)) (h:DataW.trod enc P w base spare held fuel t cs=some x):
  ∃n,cs=[.float k n]/\x=(.lit (.float k n),[])/\(Lit.float k n).wf=true:=by
 cases fuel with
 |zero=>simp [DataW.trod]at h
 |succ n=>
  unfold DataW.trod at h
  grind
def oj_ {fuel:Nat} {t e:TypeId} {m:Nat} {cs:List Value} {x:DataW H×List MemPlace} (ht:P.underlying t=some (.array m e)) (h:DataW.trod enc P w base spare held fuel t cs=some x):
  ∃(xs:List (DataW H×List MemPlace)) (n:Nat),fuel=n+1/\x=(.agg (xs.map (·.1)),xs.flatMap (·.2))/\cs.length=P.cellsOf t/\xs.length=m/\
   ∀i,i<m->DataW.trod enc P w base spare held n e ((cs.drop (i*P.cellsOf e)).take (P.cellsOf e))=xs[i]? :=by
 cases fuel with
 |zero=>simp [DataW.trod]at h
 |succ n=>
  unfold DataW.trod at h;split at h<;>simp_all
  obtain ⟨hl,xs,hp,hd⟩:=h;exact ⟨xs,hd.symm,by simpa using mapM_some_length hp,λi hi=>mapM_some_get hp i i (by simp [hi])⟩
def T5 (P:Program) (t:TypeId) (cs:List Value) (as:List AV):Prop:=Fit P t as/\Ak as=true/\as.length=cs.length/\∀E:Ag,Az E as cs
def eA {tot:Nat} {cs:List Value} (hcs:cs.length=tot):∀(fs:List Field) (off:Nat),TC P fs off tot=true->(∀f:Field,f∈fs->∃as,T5 P f.type ((cs.drop f.offset).take (P.cellsOf f.type)) as/\as.length=P.cellsOf f.type)->
  ∃parts:List (List AV),parts.length=fs.length/\(∀(i:Nat) (f:Field) (p:List AV),fs[i]? =some f->parts[i]? =some p->Fit P f.type p)/\Ak parts.flatten=true/\parts.flatten.length=cs.length-off/\off<=cs.length/\∀E:Ag,Az E parts.flatten (cs.drop off)
 |[],off,h,_=>by have h:off=tot:=za' h;refine ⟨[],rfl,(λi f p h=>by simp at h),rfl,by simp;omega,by omega,λE=>?_⟩;rw [h,←hcs,List.drop_length];rfl
 |f::r,off,h,hf=>by
  simp only [TC,Bool.and_eq_true]at h;obtain ⟨h1,h2⟩:=h;have h1:f.offset=off:=za' h1;obtain ⟨as,⟨g1,g2,g3,g4⟩,g5⟩:=hf f (zf' ..);obtain ⟨parts,k1,k2,k3,k4,k5,k6⟩:=eA hcs r (off+P.cellsOf f.type) h2 λf hm=>hf f (zd' _ hm);refine ⟨as::parts,by simp [k1],λi f' p h h'=>?_,?_,?_,by omega,λE=>?_⟩
  .grind
  all_goals grind [okL_join,zg',zh',Vl]
def kS {sz:Nat} {e:TypeId} {cs:List Value}:∀(n off:Nat),cs.length=off+n*sz->(∀i,i<n->∃as,T5 P e ((cs.drop (off+i*sz)).take sz) as)->
  ∃parts:List (List AV),parts.length=n/\(∀p,p∈parts->Fit P e p)/\Ak parts.flatten=true/\parts.flatten.length=cs.length-off/\∀E:Ag,Az E parts.flatten (cs.drop off)
 |0,off,h,_=>by refine ⟨[],rfl,(λp h=>by cases h),rfl,by simp;omega,λE=>?_⟩;rw [show off=cs.length by omega,List.drop_length];rfl
 |n+1,off,h,hf=>by
  have hm:(n+1)*sz=sz+n*sz:=(by grind);obtain ⟨as,g1,g2,g3,g4⟩:=hf 0 (zi' n);obtain ⟨parts,k1,k2,k3,k4,k5⟩:=kS (sz:=sz) (e:=e) (cs:=cs) n (off+sz) (by omega) λi hi=>by
   grind
  refine ⟨as::parts,by simp [k1],λp h=>?_,?_,?_,λE=>?_⟩;all_goals grind [okL_join,zg',zh',Vl]
def QL:∀(d fuel:Nat) (t:TypeId) (cs:List Value) (x:DataW H×List MemPlace),Lf P d t=true->DataW.trod enc P w base spare held fuel t cs=some x->x.2=[]/\cs.length=P.cellsOf t/\∃as,T5 P t cs as
 |0,fuel,t,cs,x,h,_=>by simp [Lf]at h
 |d+1,fuel,t,cs,x,h,hx=>by
  unfold Lf at h;split at h;rename_i ht;obtain ⟨b,rfl,rfl⟩:=DataW.trod_bool ht hx;exact ⟨rfl,by simp_all,[.bool b],.bool b ht,rfl,rfl,λE=>⟨_,_,rfl,rfl,rfl⟩⟩;rename_i k ht;obtain ⟨n,rfl,rfl,hw⟩:=DataW.trod_int ht hx;exact ⟨rfl,by simp_all,[.int k n],.int n ht hw,rfl,rfl,λE=>⟨_,_,rfl,rfl,rfl⟩⟩;rename_i k ht;obtain ⟨n,rfl,rfl,hw⟩:=zG ht hx;exact ⟨rfl,by simp_all,[.flt k n],.flt n ht hw,rfl,rfl,λE=>⟨_,_,rfl,rfl,rfl⟩⟩;rename_i ht;obtain ⟨s,rfl,rfl,hs⟩:=DataW.trod_string ht hx;refine ⟨rfl,by simp_all,[.str s.data.toList],.str _ ht (by simpa using hs),rfl,rfl,λE=>⟨_,_,rfl,?_,rfl⟩⟩;rfl
  .rename_i fs ht;simp only [Bool.and_eq_true,List.all_eq_true]at h;obtain ⟨h1,h2⟩:=h;obtain ⟨xs,n,rfl,rfl,hl,hxl,hel⟩:=DataW.trod_struct ht hx;have hat:∀(i:Nat) (f:Field),fs[i]? =some f->∃y,xs[i]? =some y/\DataW.trod enc P w base spare held n f.type ((cs.drop f.offset).take (P.cellsOf f.type))=some y:=λi f hf=>by
    grind
   have hfield:∀f:Field,f∈fs.toList->∃y,DataW.trod enc P w base spare held n f.type ((cs.drop f.offset).take (P.cellsOf f.type))=some y:=λf hm=>by
    grind [List.getElem?_of_mem]
   obtain ⟨parts,k1,k2,k3,k4,_,k5⟩:=eA (P:=P) hl fs.toList 0 h1 λf hm=>by
    obtain ⟨y,hy⟩:=hfield f hm;obtain ⟨_,q1,as,q2⟩:=QL d n f.type _ y (h2 f hm) hy
    grind [T5]
   refine ⟨?_,hl,parts.flatten,.struct parts ht (by omega) (λi f p h h'=>k2 i f p (by simpa using h) h'),k3,by omega,λE=>by grind⟩;rw [List.flatMap_eq_nil_iff];intro y hy;obtain ⟨i,hi⟩:=List.getElem?_of_mem hy;have hlt:i<fs.size:=(by grind);obtain ⟨y',e1,e2⟩:=hat i fs[i] (Array.getElem?_eq_getElem hlt);rw [hi]at e1;cases e1;exact (QL d n _ _ _ (h2 _ (by simp)) e2).1
  .rename_i m e ht;simp only [Bool.and_eq_true]at h;obtain ⟨h1,h2⟩:=h;have h1:=za' h1;obtain ⟨xs,n,rfl,rfl,hl,hxl,hel⟩:=oj_ ht hx;obtain ⟨parts,k1,k2,k3,k4,k5⟩:=kS (P:=P) (e:=e) (sz:=P.cellsOf e) (cs:=cs) m 0 (by omega) λi hi=>by
    have:=hel i hi;rw [List.getElem?_eq_getElem (by omega)]at this;obtain ⟨_,_,as,q⟩:=QL d n e _ _ h2 this
    grind
   refine ⟨?_,hl,parts.flatten,.array parts ht k1 k2,k3,by omega,λE=>by grind⟩;rw [List.flatMap_eq_nil_iff];intro y hy;obtain ⟨i,hi⟩:=List.getElem?_of_mem hy;have hlt:i<m:=(by grind);have:=hel i hlt;rw [hi]at this;exact (QL d n e _ _ h2 this).1
  cases h
def Hs (w:World) (ps:List MemPlace) (b o:Nat):Option Value:=if MemPlace.cell b o∈ps then w.cell? ⟨b,o,none⟩else none
def sJ_ (w:World) (ps:List MemPlace):∀b o v,Hs w ps b o=some v->w.cell? ⟨b,o,none⟩=some v:=by simp [Hs]
def iU {e:TypeId} {a:Addr} {ha:a.spot=none} {d n:Nat} {ps:List MemPlace} (hf:Lf P d e=true):∀(len k:Nat),(∀i,i<len->∃cs y,w.cells? base (a.add ((k+i)*P.cellsOf e)) (P.cellsOf e)=some cs/\DataW.trod enc P w base spare held n e cs=some y)->
  (∀j,j<len*P.cellsOf e->MemPlace.cell a.block (a.off+(k*P.cellsOf e+j))∈ps)->
  ∃(rows:List (List AV)) (vs:List Value),rows.length=len/\(∀r,r∈rows->Fit P e r)/\Ak rows.flatten=true/\vs.length=len*P.cellsOf e/\(∀E:Ag,Az E rows.flatten vs)/\
   ∀j u,vs[j]? =some u->Hs w ps a.block (a.off+k*P.cellsOf e+j)=some u
 |0,k,_,_=>⟨[],[],rfl,(λr h=>by cases h),rfl,by simp,λE=>(rfl:([]:List Value)=[]),λj u h=>(by simp at h)⟩
 |len+1,k,h,hp=>by
  obtain ⟨cs,y,hc,hy⟩:=h 0 (zi' _);obtain ⟨_,hl,as,q1,q2,q3,q4⟩:=QL d n e cs y hf hy;obtain ⟨rows,vs,k1,k2,k3,k4,k5,k6⟩:=iU (ha:=ha) hf len (k+1) (λi hi=>by
   have:=h (i+1) (by omega);rw [show k+(i+1)=k+1+i by omega]at this;exact this) (λj hj=>by
   have:=hp (P.cellsOf e+j) (by grind);rw [show k*P.cellsOf e+(P.cellsOf e+j)=(k+1)*P.cellsOf e+j by grind]at this;exact this)
  refine ⟨as::rows,cs++vs,by simp [k1],λr hr=>?_,?_,?_,λE=>?_,λj u hu=>?_⟩
  .grind
  .grind [okL_join]
  .grind
  .grind [Vl]
  .by_cases hj:j<cs.length
   .obtain ⟨_,hl2,hat⟩:=World.cells?_some hc;have hm:=hp j (by grind);unfold Hs;obtain ⟨ab,ao,as'⟩:=a
    grind [Addr.add]
   grind
def rS_ {t e:TypeId} {d fuel:Nat} {v:Value} {x:DataW H×List MemPlace} {ps:List MemPlace} (ht:P.underlying t=some (.slice e)) (hf:Lf P d e=true) (hok:∀a l c,v=.slice (some a) l c->a.spot=none)
  (hx:DataW.trod enc P w base (λ_=>true) held fuel t [v]=some x) (hps:∀p,p∈x.2->p∈ps):
  v=.slice none 0 0\/∃rows:List (List AV),(∀r,r∈rows->Fit P e r)/\rows.length<=maxLen/\Ak rows.flatten=true/\Ac (Jq (Hs w ps)) (.vsl rows.length (P.cellsOf e) rows.flatten) v:=by
 rcases DataW.trod_slice ht hx with ⟨h,_⟩|⟨a,len,cap,elems,rest,n,rfl,hv,rfl,_,hl,hm,hel,hat,hsp,_⟩
 .grind
 .cases hv;have ha:=hok a len cap rfl;obtain ⟨rows,vs,k1,k2,k3,k4,k5,k6⟩:=iU (enc:=enc) (base:=base) (spare:=λ_=>true) (held:=held) (w:=w) (P:=P) (ha:=ha) (a:=a) (ps:=ps) (n:=n) hf len 0 (λi hi=>by
   have:=hat i hi;rw [List.getElem?_eq_getElem (by omega)]at this;obtain ⟨cs',h1,h2⟩:=Option.bind_eq_some_iff.1 this
   grind) (λj hj=>by
   refine hps _ ?_;simp only [FZ];left;refine MemPlace.mem_row.2 ⟨j,?_,by simp⟩
   grind)
  refine .inr ⟨rows,k2,by omega,k3,?_⟩;obtain ⟨ab,ao,as'⟩:=a;subst ha;refine ⟨ab,ao,vs,cap,by rw [k1],by omega,(okL_con k3 (k5 _)),λj u hu=>?_⟩;have:=k6 j u hu;rw [Nat.zero_mul,Nat.add_zero]at this;exact this
where
 okL_con {E:Ag}:∀{as:List AV} {vs:List Value},Ak as=true->Az E as vs->Ah E as vs
  |[],vs,_,h=>h
  |a::as,vs,h,hc=>by obtain ⟨v,r,rfl,h1,h2⟩:=hc;rw [CL]at h;exact ⟨v,r,rfl,h1.con,okL_con (Aq h).2 h2⟩
end
section
variable {P:Program} {t:TypeId} {r:List AV}
def tF_ {k:IntKind} (ht:P.underlying t=some (.int k)) (h:Fit P t r):∃n,r=[.int k n]/\(Lit.int k n).wf=true:=by cases h<;>grind
end
section
variable {H:Type} {enc:TypeId×Value->H} {P:Program} {W:World}
def uL_ {t e:TypeId} {d base:Nat} {v:Value} {dd:DataW H} {p ps:List MemPlace} (ht:P.underlying t=some (.slice e)) (hf:Lf P d e=true) (hok:Value.okWide P W .any base t v)
  (h:DataW.Trod enc P W 0 (λ_=>true) true t v dd p) (hps:∀q,q∈p->q∈ps):
  v=.slice none 0 0\/∃rows:List (List AV),(∀r,r∈rows->Fit P e r)/\rows.length<=maxLen/\Ak rows.flatten=true/\Ac (Jq (Hs W ps)) (.vsl rows.length (P.cellsOf e) rows.flatten) v:=by
 obtain ⟨a,len,cap,rfl⟩:=okWide_slice ht hok;obtain ⟨n,hn⟩:=h;refine rS_ (x:=(dd,p)) ht hf (λa' l c e=>?_) hn hps;cases e;simp only [Value.okWide,ht,Cell.okWide,Cell.ok]at hok;exact hok.2.2.2.1
end
def Hd (P:Program):Nat->TypeId->Bool
 |0,_=>false
 |d+1,t=>match P.underlying t with
  |some .bool=>true
  |some (.int _)=>true
  |some (.float _)=>true
  |some .string=>true
  |some (.slice e)=>Nat.blt 0 (P.cellsOf e)&&Hd P d e
  |some (.struct fs)=>fs.toList.all λf=>Hd P d f.type
  |some (.array _ e)=>Hd P d e
  |_=>false
section
variable {H:Type} {enc:TypeId×Value->H} {P:Program} {w:World} {base:Nat} {held:Bool} {sp:Nat->Bool}
theorem zT {d:Nat} {t:TypeId} (hw:Hd P (d+1) t=true) {r r':TypeId->List Value->Option (DataW H×List MemPlace)}
  (hr:∀t cs x,Hd P d t=true->r t cs=some x->(∀p∈x.2,sp p.block=true)->r' t cs=some x) {cs:List Value} {x:DataW H×List MemPlace}
  (h:DataW.trodStep enc P w base (λ_=>true) held r t cs=some x) (hs:∀p∈x.2,sp p.block=true):DataW.trodStep enc P w base sp held r' t cs=some x:=by
 unfold DataW.trodStep at h⊢;split at h
 case h_8 e a len cap ht=>
  unfold Hd at hw;rw [ht]at hw;simp only [Bool.and_eq_true]at hw;obtain ⟨hz,hwe⟩:=hw;have hz:0<P.cellsOf e:=(by simp_all);split at h
  .rename_i hc;rw [Ad hc];simp only [Option.map_eq_some_iff,Option.bind_eq_some_iff]at h⊢;obtain ⟨elems,he,rest,hrest,rfl⟩:=h;have one:∀(i:Nat) (y:DataW H×List MemPlace),y∈elems++rest->
     (w.cells? base (a.add (i*P.cellsOf e)) (P.cellsOf e)).bind (r e)=some y->(w.cells? base (a.add (i*P.cellsOf e)) (P.cellsOf e)).bind (r' e)=some y:=by
    grind [Option.bind_eq_some_iff]
   refine ⟨elems,mapM_carry he (λi y hi hy=>one i y (by simp [hy])),rest,?_,rfl⟩;have hrl:rest.length=cap-len:=(by simpa using mapM_some_length hrest);cases hrl0:cap-len with
   |zero=>
    grind
   |succ m=>
    have hsa:sp a.block=true:=by refine hs (.cell a.block (a.off+0)) ?_;simp only [FZ];left;refine MemPlace.mem_row.2 ⟨0,Nat.mul_pos (by omega) hz,rfl⟩
    grind [mapM_carry]
  cases h
 case h_9 fs _ _ ht=>
  unfold Hd at hw;rw [ht]at hw;simp only [List.all_eq_true]at hw;split at h;rename_i hc;rw [Ad hc];simp only [Option.map_eq_some_iff]at h⊢;obtain ⟨xs,hx,rfl⟩:=h;exact ⟨xs,mapM_carry hx (λf y hf hy hv=>hr _ _ _ (hw f hf) hv (λp hp=>hs p (List.mem_flatMap.2 ⟨y,hy,hp⟩))),rfl⟩;cases h
 case h_10 n e _ _ ht=>
  unfold Hd at hw;rw [ht]at hw;split at h;rename_i hc;rw [Ad hc];simp only [Option.map_eq_some_iff]at h⊢;obtain ⟨xs,hx,rfl⟩:=h;exact ⟨xs,mapM_carry hx (λf y _ hy hv=>hr _ _ _ hw hv (λp hp=>hs p (List.mem_flatMap.2 ⟨y,hy,hp⟩))),rfl⟩;cases h
 all_goals grind [Hd]
theorem zf:∀(n d:Nat) (t:TypeId) (cs:List Value) (x:DataW H×List MemPlace),Hd P d t=true->
  DataW.trod enc P w base (λ_=>true) held n t cs=some x->(∀p∈x.2,sp p.block=true)->DataW.trod enc P w base sp held n t cs=some x:=by
 intro n
 induction n with
 |zero=>simp [DataW.trod]
 |succ n ih=>intro d t cs x hw h hs;cases d<;>grind [Hd,DataW.trod_step,zT]
theorem sS {W W':World} (h:GrownB W W') {p:MemPlace} (hp:p.block<W.heap.size):W.sameAt W' p:=by
 obtain ⟨⟨_,_,hk⟩,_,hs⟩:=h;have hb:=hk p.block hp;cases p with
 |cell b off=>
  simp only [MemPlace.block]at hp hb;show W'.cell? ⟨b,off,none⟩=W.cell? ⟨b,off,none⟩;unfold World.cell?
  grind
 |map b=>
  simp only [MemPlace.block]at hp hb;show W'.heap[b]? =W.heap[b]?;obtain ⟨o1,h1⟩:∃o,W.heap[b]? =some o:=⟨W.heap[b],Array.getElem?_eq_getElem hp⟩;obtain ⟨o2,h2⟩:∃o,W'.heap[b]? =some o:=⟨W'.heap[b]'(by omega),Array.getElem?_eq_getElem (by omega)⟩;rw [h1,h2]at hb;rw [h1,h2];cases o1 with
  |cells c t fr=>
   cases o2 with
   |cells c' t' fr'=>obtain ⟨rfl,rfl,_,hc⟩:=hb;have:c'=c:=Array.ext_getElem? λj=>hc j (λh=>h);rw [this]
   |_=>cases hb
  |map es cl=>
   grind
  |_=>omega
def trodAll_again {d:Nat} {W W':World} (hg:GrownB W W'):∀{ts:List TypeId} {vs:List Value} {ds:List (DataW H)} {ps:List MemPlace},(ts.all λt=>Hd P d t)=true->
  DataW.TrodAll enc P W 0 (λ_=>true) held ts vs ds ps->(∀p∈ps,p.block<W.heap.size)->(∀p∈ps,sp p.block=true)->DataW.TrodAll enc P W' 0 sp held ts vs ds ps
 |[],[],[],_,_,h,_,_=>h
 |t::ts,v::vs,dd::ds,_,hw,⟨p,q,⟨n,h1⟩,h2,rfl⟩,hlt,hsp=>by
  simp only [List.all_cons,Bool.and_eq_true]at hw;refine ⟨p,q,⟨n,?_⟩,trodAll_again hg hw.2 h2 (λx hx=>hlt x (by simp [hx])) (λx hx=>hsp x (by simp [hx])),rfl⟩
  grind [DataW.trod_carry,zf,sS]
end
variable [Gl]
def rr {P:Program} {f:FuncId} {ag:List AV} {v:AV} (hp:HR P f ag v) (w:World) (ps:List MemPlace) {vs:List Value} (hc:Ah (Jq (Hs w ps)) ag vs)
  (hg:BM (Jq (Hs w ps))):Calls P f ⟨vs⟩ w λe w'=>(∃E u,e=.returned u/\Ac E v u)/\GrownB w w':=by
 refine Calls.mono (hp H0 w (λb=>b<w.heap.size) (Jq (Hs w ps)) w vs hg (vm_ w _ (sJ_ w ps)) hc) λe w' he=>?_;obtain ⟨E',_,u,rfl,h1,h2⟩:=he;exact ⟨⟨E',u,rfl,h1⟩,q9_ h2.size (λb hb=>(h2.prot b hb).2) h2.os h2.output⟩
end Go.Sx
namespace Go.Sx
theorem Lx (s:Nat->Option AV):∀a b:List AV,Am s (a++b)=Am s a++Am s b
 |[],b=>rfl
 |x::r,b=>by simp [Am,Lx]
theorem IU (s:Nat->Option AV):∀l:List AV,(Am s l).length=l.length
 |[]=>rfl
 |a::r=>by simp [Am,IU s r]
theorem Lk (s:Nat->Option AV):∀(l:List AV) (i:Nat),(Am s l)[i]? =(l[i]?).map (Ap s)
 |[],i=>by simp [Am]
 |b::r,0=>by simp [Am]
 |b::r,i+1=>by simpa [Am]using Lk s r i
theorem fL:∀{l:List AV},Bi l=true->∀(i:Nat) (a:AV),l[i]? =some a->Bf a=true
 |[],_,i,a,h=>by simp at h
 |b::r,hs,i,a,h=>by
  simp only [Bi]at hs;cases hb:Bf b with
  |true=>
   rw [hb]at hs;cases i with
   |zero=>simp at h;subst h;exact hb
   |succ i=>exact fL hs i a (by simpa using h)
  |false=>rw [hb]at hs;cases hs
def aG:∀{a b:List AV},Bi a=true->Bi b=true->Bi (a++b)=true
 |[],b,_,h=>h
 |x::r,b,h,h'=>by
  simp only [Bi]at h;cases hb:Bf x with
  |true=>rw [hb]at h;simp only [Bl,Bi,hb];exact aG h h'
  |false=>rw [hb]at h;cases h
mutual
theorem EM:∀{l:List AV},Ak l=true->Bi l=true
 |[],_=>rfl
 |a::r,h=>by rw [CL]at h;obtain ⟨h1,h2⟩:=Aq h;simp only [Bi,qd_ a h1];exact EM h2
theorem qd_:∀a:AV,okC a=true->Bf a=true
 | .opq,h=>by simp [okC]at h
 | .bool _,_=>rfl
 | .int _ _,_=>rfl
 | .flt _ _,_=>rfl
 | .nan _,_=>rfl
 | .str _,_=>rfl
 | .nptr,_=>rfl
 | .ptr _ _,h=>by simp [okC]at h
 | .vptr cs,h=>by simp only [okC]at h;simp only [Bf];exact EM h
 | .nsl,_=>rfl
 | .sl ..,h=>by simp [okC]at h
 | .vsl _ _ cs,h=>by simp only [okC]at h;simp only [Bf];exact EM h
 | .nmap,_=>rfl
 | .map _,h=>by simp [okC]at h
 | .nfn,_=>rfl
 | .fn _ cs,h=>by simp only [okC]at h;simp only [Bf];exact EM h
 | .nif,_=>rfl
 | .iface _ a,h=>by simp only [okC]at h;simp only [Bf];exact fk a h
 | .agg _,h=>by simp [okC]at h
 | .tup _,h=>by simp [okC]at h
 | .sym _,h=>by rfl
 | .slx ..,h=>by simp [okC]at h
 | .ptx ..,h=>by simp [okC]at h
theorem fk:∀a:AV,okI a=true->Bf a=true
 | .opq,h=>by simp [okI]at h
 | .bool _,_=>rfl
 | .int _ _,_=>rfl
 | .flt _ _,_=>rfl
 | .nan _,_=>rfl
 | .str _,_=>rfl
 | .nptr,_=>rfl
 | .ptr _ _,h=>by simp [okI]at h
 | .vptr cs,h=>by simp only [okI]at h;simp only [Bf];exact EM h
 | .nsl,_=>rfl
 | .sl ..,h=>by simp [okI]at h
 | .vsl _ _ cs,h=>by simp only [okI]at h;simp only [Bf];exact EM h
 | .nmap,_=>rfl
 | .map _,h=>by simp [okI]at h
 | .nfn,_=>rfl
 | .fn _ cs,h=>by simp only [okI]at h;simp only [Bf];exact EM h
 | .nif,_=>rfl
 | .iface _ a,h=>by simp only [okI]at h;simp only [Bf];exact fk a h
 | .agg cs,h=>by simp only [okI]at h;simp only [Bf];exact EM h
 | .tup _,h=>by simp [okI]at h
 | .sym _,h=>by rfl
 | .slx ..,h=>by simp [okI]at h
 | .ptx ..,h=>by simp [okI]at h
end
mutual
theorem UH {E:Ag} {s:Nat->Option AV} (hs:∀i x,E.sy i=some x->s i=some x):∀{a:AV} {v:Value},Ac E a v->Ap s a=Ap E.sy a
 | .opq,_,_=>rfl
 | .bool _,_,_=>rfl
 | .int _ _,_,_=>rfl
 | .flt _ _,_,_=>rfl
 | .nan _,_,_=>rfl
 | .str _,_,_=>rfl
 | .nptr,_,_=>rfl
 | .ptr _ _,_,_=>rfl
 | .vptr cs,v,h=>by simp only [Ac]at h;obtain ⟨_,_,_,_,h2,_⟩:=h;simp only [Ap,Lr hs h2]
 | .nsl,_,_=>rfl
 | .sl ..,_,_=>rfl
 | .vsl _ _ cs,v,h=>by simp only [Ac]at h;obtain ⟨_,_,_,_,_,_,h2,_⟩:=h;simp only [Ap,Lr hs h2]
 | .nmap,_,_=>rfl
 | .map _,_,_=>rfl
 | .nfn,_,_=>rfl
 | .fn _ cs,v,h=>by simp only [Ac]at h;obtain ⟨_,_,h2⟩:=h;simp only [Ap,Lr hs h2]
 | .nif,_,_=>rfl
 | .iface _ a,v,h=>by simp only [Ac]at h;obtain ⟨_,_,h2⟩:=h;simp only [Ap,UH hs h2]
 | .agg cs,v,h=>by simp only [Ac]at h;obtain ⟨_,_,h2⟩:=h;simp only [Ap,Lr hs h2]
 | .tup cs,v,h=>by simp only [Ac]at h;obtain ⟨_,_,h2⟩:=h;simp only [Ap,Lr hs h2]
 | .sym i,v,h=>by grind [Ac,Ap]
 | .slx ..,_,_=>rfl
 | .ptx ..,_,_=>rfl
theorem Lr {E:Ag} {s:Nat->Option AV} (hs:∀i x,E.sy i=some x->s i=some x):∀{l:List AV} {vs:List Value},Ah E l vs->Am s l=Am E.sy l
 |[],_,_=>rfl
 |a::r,vs,h=>by simp only [Ah]at h;obtain ⟨_,_,_,h1,h2⟩:=h;simp only [Am,UH hs h1,Lr hs h2]
end
section
variable {P:Program} {B:World} {pr:Nat->Prop} {E:Ag} {H:AHeap} {w:World}
def Ao.expand (h:Ao B pr E H w) {id i len sz:Nat} {cs:List AV} (hk:H.get id=some (.syl i)) (hi:E.sy i=some (.vsl len sz cs)):Ao B pr E (H.set id (.cells cs)) w/\cs.length=len*sz:=by
 have hlt:=AHeap.get_lt hk;obtain ⟨own,g1,g2⟩:=h.own;have h0:∃b o,E.φ id=some (b,o)/\own b=some id/\BlkAt E w b o (.cells cs)/\cs.length=len*sz:=by
  obtain ⟨_,hv⟩|⟨b,o,h1,h2,len',sz',cs',e,hlen,arr,t,h3,h4,h5,h6⟩:=g1 id _ hk
  .have hv:E.sy i=some .nsl:=hv
   grind
  rw [hi]at e;cases e;refine ⟨b,o,h1,h2,⟨arr,t,h3,h4,h5,λj a ha=>?_⟩,hlen⟩;obtain ⟨v,q1,_,q2⟩:=h6 j a ha;exact ⟨v,q1,q2.con⟩
 obtain ⟨b,o,e1,e2,e3,e4⟩:=h0;refine ⟨{ own:=⟨own,λid' k' hk'=>?_,g2⟩,imm:=h.imm,ib:=h.ib,fresh:=h.fresh,resv:=h.resv,vds:=h.vds,szs:=h.szs,prot:=h.prot,size:=h.size,os:=h.os,output:=h.output },e4⟩;by_cases e:id=id';subst e;rw [AHeap.get_set_same H hlt]at hk';cases hk';exact .inr ⟨b,o,e1,e2,e3⟩
 grind [AHeap.get_set_ne]
def Ao.collapse (h:Ao B pr E H w) {id n len sz:Nat} {cells:List AV} (hk:H.get id=some (.cells cells)) (hs:Bi cells=true) (hn:E.sy n=some (.vsl len sz (Am E.sy cells))) (hok:Ak (Am E.sy cells)=true)
  (hlen:cells.length=len*sz):Ao B pr E (H.set id (.syl n)) w:=by
 have hlt:=AHeap.get_lt hk;obtain ⟨own,g1,g2⟩:=h.own;refine { own:=⟨own,λid' k' hk'=>?_,g2⟩,imm:=h.imm,ib:=h.ib,fresh:=h.fresh,resv:=h.resv,vds:=h.vds,szs:=h.szs,prot:=h.prot,size:=h.size,os:=h.os,output:=h.output };by_cases e:id=id'
 .subst e;rw [AHeap.get_set_same H hlt]at hk';cases hk';obtain ⟨_,hv⟩|⟨b,o,h1,h2,arr,t,h3,h4,h5,h6⟩:=g1 id _ hk;exact hv.elim
  .refine .inr ⟨b,o,h1,h2,len,sz,_,hn,by grind [IU],arr,t,h3,h4,by rw [IU];exact h5,λj a ha=>?_⟩
   grind [Lk,Fn,J1,C7,fL]
 grind [AHeap.get_set_ne]
def Ag.void (E:Ag) (id:Nat):Ag:={ E with res:=λi=>E.res i\/i=id,vd:=λi=>E.vd i\/i=id }
def Ag.sub_void (E:Ag) (id:Nat):E.sub (E.void id):=⟨λ_ _ h=>h,λ_ _ h=>h,λ_ _ _ h=>h,rfl,rfl⟩
def Ao.newVoid (h:Ao B pr E H w) (hr:H.room=true) {n:Nat} (hn:E.sy n=some .nsl):Ao B pr (E.void H.next) (H.push (.syl n)) w:=by obtain ⟨h1,h2,h3⟩:=Ao.room hr;obtain ⟨own,g1,g2⟩:=h.own;refine { own:=⟨own,λid k hk=>?_,g2⟩,imm:=h.imm,ib:=h.ib,fresh:=λid e1 e2=>h.fresh id (zj' e1) e2,resv:=λid hi=>?_,vds:=λid hv=>hv.imp (h.vds id) (λe=>e),szs:=h.szs,prot:=h.prot,size:=h.size,os:=h.os,output:=h.output };by_cases e:H.next=id;subst e;rw [AHeap.get_push_same H h2]at hk;cases hk;exact .inl ⟨.inr rfl,hn⟩;rw [AHeap.get_push_ne H h2 e]at hk;exact (g1 id k hk).imp (λ_ h=>h) (λh=>⟨.inl h.1,h.2⟩) λb o _ q1 q2=>⟨q1,q2.sub (Ag.sub_void E H.next) rfl⟩;rcases hi with hi|rfl;obtain ⟨q1,q2⟩:=h.resv id hi;exact ⟨q1,λhx=>q2 ⟨zj' hx.1,hx.2⟩⟩;exact ⟨h.fresh _ (zc' _) h1,λhx=>zb' _ hx.1⟩
def Ao.same (h:Ao B pr E H w) {H':AHeap} (hg:∀id k,H'.get id=some k->H.get id=some k) (hn:H'.next=H.next) (hh:H'.hi=H.hi):Ao B pr E H' w:=
 h.forget hg (by omega) (by omega)
def XU:∀{a b:List AV},Ak (a++b)=true->Ak a=true/\Ak b=true
 |[],b,h=>⟨rfl,h⟩
 |x::r,b,h=>by rw [List.cons_append,CL]at h;obtain ⟨h1,h2⟩:=Aq h;obtain ⟨h3,h4⟩:=XU h2;exact ⟨by rw [CL,h1,h3];rfl,h4⟩
def Jv {E':Ag} {H0:AHeap} {X:List AV} {len sz n:Nat} {v:Value} (hle:E.sub E') (hrel:Ao B pr E' (H0.push (.cells X)) w) (hcon:Ac E' (.sl H0.next 0 len sz none) v) (hroom:H0.next<A8)
  (hX:Bi X=true) (hn:E.sy n=some (.vsl len sz (Am E.sy X))) (hok:Ak (Am E.sy X)=true) (hlen:X.length=len*sz):Ao B pr E' (H0.push (.syl n)) w/\Ac E' (.slx H0.next sz n) v:=by
 have hsy:E'.sy=E.sy:=hle.2.2.2.1;have hn':E'.sy n=some (.vsl len sz (Am E'.sy X)):=by grind
 constructor
 .have:=hrel.collapse (AHeap.get_push_same H0 hroom _) hX hn' (by grind) hlen;refine this.same (λid k hk=>?_) rfl rfl
  grind [AHeap.get_push_same,AHeap.get_set_same,AHeap.get_push_ne,AHeap.get_set_ne]
 .simp only [Ac]at hcon⊢
  grind
def dY (hr:Ao B pr E H w) {id sz i n m:Nat} {xa:AV} {l:List AV} {t tx ty e:TypeId} {info:TypeInfo} {z:Value} {dx:TypeDesc} {sv xv:Value} {a r:AV}
  (ht:P.underlying t=some (.slice e)) (hi:P.info? e=some info) (hz:info.zero=some z) (htx:P.underlying tx=some dx) (hnot:Jt dx=true) (hzl:Nat.beq (Bp (Cb z)) info.size=true) (hsz:info.size=sz)
  (hs:Ac E (.slx id sz i) sv) (hx:Ac E xa xv) (hk:H.get id=some (.syl i)) (hroom:H.room=true)
  (hm:C6 xa=some m) (hl:∀H':AHeap,(∀j,j≠id->H'.get j=H.get j)->Cu H' xa m sz=some l) (hone:Ds l=true) (hlok:Bi l=true)
  (hsi:E.sy i=some a) (hrr:En sz info.bytes a m (Am E.sy l)=some r) (hrok:okC r=true) (hn:E.sy n=some r):
  ∃E' v w',(Builtin.append_ #[t,tx] ty #[sv,xv]).run P w=.ok v w'/\E.sub E'/\E'.bim=E.bim/\((∀id,E.res id->E.vd id)->∀id,E'.res id->E'.vd id)/\Ao B pr E' ((H.erase id).push (.syl n)) w'/\Ac E' (.slx H.next sz n) v/\(0<m->E.le E'):=by
 subst hsz;obtain ⟨r1,r2,r3⟩:=Ao.room hroom;have hid:=AHeap.get_lt hk;unfold En at hrr;split at hrr;cases hrr;rename_i hlen;have hlen:(Am E.sy l).length=m*info.size:=AR hlen;rw [IU]at hlen;have hlb:Nat.beq (Bp l) (Nat.mul m info.size)=true:=by grind [BW,zk']
 have hsp:=hs;obtain ⟨a',e1,hsp⟩:=hsp;rw [hsi]at e1;cases e1;have heg:∀j,j≠id->(H.erase id).get j=H.get j:=λj hj=>AHeap.get_erase_ne H (λe=>hj e.symm);have hroomE:(H.erase id).room=true:=hroom;rcases hsp with ⟨rfl,hsv⟩|⟨len,cs,rfl,hsl⟩
 ·
  have hc0:Ac E .nsl sv:=(by grind [Ac]);have hrE:=hr.erase id;have hl':=hl (H.erase id) heg;cases m with
  |zero=>
   simp only [A2]at hrr;subst hrr;have hev:DI P (H.erase id) t tx .nsl xa=some (.nsl,H.erase id):=by simp_all [DI]
   obtain ⟨E',v,w',g1,g2,g3,g4⟩:=Io (ty:=ty) hrE hc0 hx hev;have hvn:=g3.newVoid hroomE (n:=n) (by rw [g2.1.2.2.2.1];exact hn);refine ⟨E'.void H.next,v,w',g1,Ag.sub_trans g2.1 (Ag.sub_void _ _),g2.2.2.1,λhat j hj=>?_,hvn,?_,λh=>absurd h (zb' 0)⟩;rcases hj with hj|hj;exact .inl (by rw [g2.2.2.2];exact hat j (by rw [←g2.2.1];exact hj));exact .inr hj;exact ⟨.nsl,by show E'.sy n=_;rw [g2.1.2.2.2.1];exact hn,.inl ⟨rfl,g4⟩⟩
  |succ m=>
   simp only at hrr;split at hrr
   .rename_i hb;cases hrr;have hev:DI P (H.erase id) t tx .nsl xa=some (.sl (H.erase id).next 0 (m+1) info.size none,(H.erase id).push (.cells l)):=by
     grind [DI,F3]
    obtain ⟨E',v,w',g1,g2,g3,g4⟩:=Io (ty:=ty) hrE hc0 hx hev;obtain ⟨k1,k2⟩:=Jv (H0:=H.erase id) g2.1 g3 g4 r2 hlok hn hrok hlen;exact ⟨E',v,w',g1,g2.1,g2.2.2.1,λhat j hj=>by rw [g2.2.2.2];exact hat j (by rw [←g2.2.1];exact hj),k1,k2,λ_=>g2⟩
   cases hrr
 ·
  simp only at hrr;split at hrr;cases hrr;rename_i hd;have hcl:cs.length=len*info.size:=(AR hd).2;obtain ⟨hrX,_⟩:=hr.expand hk hsi;have hc0:Ac E (.sl id 0 len info.size none) sv:=by
   grind [Ac]
  have hsg:∀j,j≠id->(H.set id (.cells cs)).get j=H.get j:=λj hj=>AHeap.get_set_ne H hid (λe=>hj e.symm) _;have hl':=hl (H.set id (.cells cs)) hsg;have hsame:∀j k,((H.erase id).push (.syl n)).get j=some k->(((H.set id (.cells cs)).erase id).push (.syl n)).get j=some k:=λj k hj=>by
   by_cases e:H.next=j
   .have e1:((H.erase id).push (.syl n)).get H.next=some (.syl n):=AHeap.get_push_same (H.erase id) r2 _;have e2:(((H.set id (.cells cs)).erase id).push (.syl n)).get H.next=some (.syl n):=AHeap.get_push_same ((H.set id (.cells cs)).erase id) r2 _
    grind
   .have e1:((H.erase id).push (.syl n)).get j=(H.erase id).get j:=AHeap.get_push_ne (H.erase id) r2 e _;have e2:(((H.set id (.cells cs)).erase id).push (.syl n)).get j=((H.set id (.cells cs)).erase id).get j:=AHeap.get_push_ne ((H.set id (.cells cs)).erase id) r2 e _
    grind [AHeap.get_erase_same,AHeap.get_erase_ne]
  have hgetX:(H.set id (.cells cs)).get id=some (.cells cs):=AHeap.get_set_same H hid _;cases m with
  |zero=>
   simp only [A2]at hrr;subst hrr;have hev:DI P (H.set id (.cells cs)) t tx (.sl id 0 len info.size none) xa=some (.sl id 0 len info.size none,H.set id (.cells cs)):=by simp_all [DI]
   obtain ⟨E',v,w',g1,g2,g3,g4⟩:=Io (ty:=ty) hrX hc0 hx hev;have g4':=g4;obtain ⟨b,o,nn,c,off',q1,q2,q3,q4,q5,q6,_⟩:=g4';obtain ⟨arr,t',f1,f2,f3,f4⟩:=g3.blk hgetX q1;have hroomX:(H.set id (.cells cs)).room=true:=hroom;obtain ⟨p1,p2⟩:=g3.renew hroomX hgetX q1 f1 f3 f4;have hsub:E.sub (E'.bind H.next b o):=Ag.sub_trans g2.1 p1.1;have hden:Am E.sy cs=cs:=EF _ hrok;have hcon2:Ac (E'.bind H.next b o) (.sl H.next 0 len info.size none) v:=(by exact ⟨b,o,nn,c,off',by simp [Ag.bind],p1.1.2.1 _ _ q2,q3,q4,q5,q6,λk hk=>by cases hk⟩);obtain ⟨k1,k2⟩:=Jv (H0:=(H.set id (.cells cs)).erase id) hsub p2 hcon2 r2 (EM hrok) (by rw [hden];exact hn) (by rw [hden];exact hrok) hcl;exact ⟨_,v,w',g1,hsub,g2.2.2.1,λhat j hj=>by show E'.vd j;rw [g2.2.2.2];exact hat j (by rw [←g2.2.1];exact hj),k1.same hsame rfl rfl,k2,λh=>absurd h (zb' 0)⟩
  |succ m=>
   simp only at hrr;split at hrr
   .rename_i hb;cases hrr;have hlc:Nat.beq (Nat.add 0 (Nat.mul len info.size)) (Bp cs)=true:=by simp_all [BW]
    have hroomX:((H.set id (.cells cs)).erase id).room=true:=hroom;have hev:DI P (H.set id (.cells cs)) t tx (.sl id 0 len info.size none) xa=some (.sl ((H.set id (.cells cs)).erase id).next 0 (Nat.add len (m+1)) info.size none,((H.set id (.cells cs)).erase id).push (.cells (cs++l))):=(by unfold DI;simp only [ht,hi,hz,htx,hnot,hzl,Bool.and_self,hm,hl',hlb,Nat.beq_refl,hb,hgetX,hone,hlc,F3,hroomX,Bj]);obtain ⟨E',v,w',g1,g2,g3,g4⟩:=Io (ty:=ty) hrX hc0 hx hev;have hcs:=(XU hrok).1;have hden:Am E.sy (cs++l)=cs++Am E.sy l:=(by rw [Lx,EF _ hcs])
    obtain ⟨k1,k2⟩:=Jv (H0:=(H.set id (.cells cs)).erase id) g2.1 g3 g4 r2 (aG (EM hcs) hlok) (by rw [hden];exact hn) (by rw [hden];exact hrok) (by
     grind)
    exact ⟨E',v,w',g1,g2.1,g2.2.2.1,λhat j hj=>by rw [g2.2.2.2];exact hat j (by rw [←g2.2.1];exact hj),k1.same hsame rfl rfl,k2,λ_=>g2⟩
   cases hrr
end
section
variable [Gl]
def KM (H:AHeap) (sz:Nat) (x:AV):Option AV:=match x with
 | .sl id off len sz' cap=>match Cu H (.sl id off len sz' cap) len sz with
   |some l=>match Bi l&&(Ds l&&(Nat.beq (Bp l) (Nat.mul len sz)&&Nat.blt 0 sz))with
    |true=>some (.agg l)
    |false=>none
   |none=>none
 | .sym i=>some (.sym i)
 | .vsl n z cs=>match Bi cs with
   |true=>some (.vsl n z cs)
   |false=>none
 | .nsl=>some .nsl
 | .str s=>some (.str s)
 |_=>none
def J8 (P:Program) (T:Tm) (H:AHeap) (o:Oper):Option (Nat×Nat×XOp×List AV):=match o.op with
 | .call c=>match c.callee with
   | .builtin b=>match b with
     | .append=>match c.args.toList,c.argTypes.toList with
       |[s,x],[t,tx]=>match look T s with
        | .slx id sz i=>match H.get id with
          |some (.syl j)=>match Nat.beq j i&&H.room with
           |true=>match P.underlying t with
            |some (.slice e)=>match P.info? e with
             |some info=>match info.zero with
                 |some z=>match P.underlying tx with
                  |some dx=>match Jt dx&&(Nat.beq (Bp (Cb z)) info.size&&Nat.beq info.size sz)with
                   |true=>match KM H sz (look T x)with
                    |some b=>some (id,sz,.app sz info.bytes,[.sym i,b])
                    |none=>none
                   |false=>none
                  |none=>none
                 |none=>none
             |none=>none
            |_=>none
           |false=>none
          |_=>none
        |_=>none
       |_,_=>none
     |_=>none
   |_=>none
 |_=>none
section
omit [Gl]
def lB_ {H H':AHeap} {id id2 off len sz' n sz i:Nat} {cap:Option Nat} {l:List AV} (hk:H.get id=some (.syl i)) (h:Cu H (.sl id2 off len sz' cap) n sz=some l) (hH:∀j,j≠id->H'.get j=H.get j):
  Cu H' (.sl id2 off len sz' cap) n sz=some l:=by
 unfold Cu at h⊢
 grind [Du]
def gJ {E:Ag} {a:AV} {v:Value} (h:Al E a v):GK a=true:=by cases a<;>first|rfl|(simp [Al]at h)
def ba {E:Ag} {H:AHeap} {sz id i:Nat} {x b:AV} {xv:Value} (hx:Ac E x xv) (hk:H.get id=some (.syl i)) (h:KM H sz x=some b) {n:Nat} {l:List AV} (hb:DC sz (Ap E.sy b)=some (n,l)) (hok:Ak l=true):
  ∃xa l',Ac E xa xv/\C6 xa=some n/\(∀H':AHeap,(∀j,j≠id->H'.get j=H.get j)->Cu H' xa n sz=some l')/\Ds l'=true/\Bi l'=true/\l=Am E.sy l':=by
 have closed:∀b,Bf b=true->x=b->(∀l,Ap E.sy b≠ .agg l)->DC sz (Ap E.sy b)=some (n,l)->∃xa l',Ac E xa xv/\C6 xa=some n/\(∀H':AHeap,(∀j,j≠id->H'.get j=H.get j)->Cu H' xa n sz=some l')/\Ds l'=true/\Bi l'=true/\l=Am E.sy l':=by
  intro b hs e hna hb;subst e;have hc0:=C7 hs hx;have hoff:=gJ hc0;have:∃n',C6 (Ap E.sy x)=some n'/\∃l',Cu ⟨AD,0,0⟩ (Ap E.sy x) n' sz=some l'/\n=n'/\l=l':=by
   unfold DC at hb
   grind
  obtain ⟨_,h1,_,h2,rfl,rfl⟩:=this;refine ⟨_,l,hc0.con,h1,λH' _=>?_,okL_allOne hok,EM hok,(EF _ hok).symm⟩
  grind [eB]
 unfold KM at h;split at h;rename_i id2 off len sz' cap;split at h;rename_i l' hl;split at h;rename_i hbb;cases h;obtain ⟨b1,hbb⟩:=Aq hbb;obtain ⟨b2,hbb⟩:=Aq hbb;obtain ⟨b3,b4⟩:=Aq hbb;have b3:=za' b3;rw [BW]at b3;have b3:l'.length=len*sz:=b3;have b4:0<sz:=(by simp_all);simp only [Ap,DC,A2,Prod.mk.injEq]at hb;obtain ⟨e1,e2⟩:=hb;have e1:(Am E.sy l').length/sz=n:=(by rw [←e1,BW];rfl);rw [IU,b3,Nat.mul_div_cancel _ b4]at e1;subst e1;exact ⟨_,l',hx,rfl,λH' hH=>lB_ hk hl hH,b2,b1,e2.symm⟩;cases h;cases h;cases h;refine closed _ rfl rfl (λl e=>?_) hb;have hx':=hx;obtain ⟨a,q1,q2,_⟩:=hx';simp only [Ap,q1]at e;subst e;cases q2;split at h;rename_i hs;cases h;exact closed _ (by grind [Bf]) rfl (λl e=>by simp [Ap]at e) hb;cases h;cases h;exact closed _ rfl rfl (λl e=>by simp [Ap]at e) hb;cases h;exact closed _ rfl rfl (λl e=>by simp [Ap]at e) hb;cases h
where okL_allOne:∀{l:List AV},Ak l=true->Ds l=true
 |[],_=>rfl
 |a::r,h=>by rw [CL]at h;obtain ⟨h1,h2⟩:=Aq h;simp only [Ds,Fn h1];exact okL_allOne h2
def UD {sz bytes n:Nat} {a r:AV} {l:List AV} (h:En sz bytes a n l=some r) (hr:okC r=true):Ak l=true:=by
 unfold En at h;split at h;cases h
 .rename_i hd;have hd:l.length=n*sz:=AR hd;have nil:n=0->Ak l=true:=λe=>by subst e;rw [Nat.zero_mul]at hd;rw [List.eq_nil_of_length_eq_zero hd];rfl
  split at h
  .split at h;exact nil rfl
   .split at h<;>grind [okC]
  split at h;cases h;split at h;exact nil rfl;split at h;cases h;exact (XU (by simpa only [okC]using hr)).2;cases h;cases h
end
def st_ {P:Program} {N k:Nat} {o:Oper} {T:Tm} {H:AHeap} {id sz n:Nat} {op:XOp} {ag:List AV} (ha:J8 P T H o=some (id,sz,op,ag)) {Y:Sy} (hf:AA Y n) {r:AV} (hr:op.run P (Am Y.v ag)=some r) (hok:okC r=true)
  {B:World} {pr:Nat->Prop} {E:Ag} {a:Act} {w:World} (hy:E.At Y) (st:St P B pr N E T H [] a w):
  ∃E' nx v w',(execOp a.eval o).run P w=.ok nx w'/\(nx=.value v\/(nx=.skip/\v=undef))/\E.leF k E'/\E'.At (Y.put n r)/\St P B pr N E' T ((H.erase id).push (.syl n)) [] a w'/\Ac E' (.slx H.next sz n) v:=by
 unfold J8 at ha;split at ha
 case h_2=>cases ha
 rename_i c ho;split at ha
 case h_2=>cases ha
 rename_i b hc;split at ha
 case h_2=>cases ha
 split at ha
 case h_2=>cases ha
 rename_i s x t tx h1 h2;split at ha
 case h_2=>cases ha
 rename_i id' sz' i hs;split at ha
 case h_2=>cases ha
 rename_i j hk;split at ha
 case h_2=>cases ha
 rename_i hji;split at ha
 case h_2=>cases ha
 rename_i e ht;split at ha
 case h_2=>cases ha
 rename_i info hi;split at ha
 case h_2=>cases ha
 rename_i z hz;split at ha
 case h_2=>cases ha
 rename_i dx htx;split at ha
 case h_2=>cases ha
 rename_i hb;split at ha
 case h_2=>cases ha
 rename_i bb harg;cases ha;obtain ⟨hji,hroom⟩:=Aq hji;have hji:=za' hji;subst hji;obtain ⟨hnot,hb⟩:=Aq hb;obtain ⟨hzl,hsz⟩:=Aq hb;have hsz:=za' hsz;have hv:∀i x,E.sy i=some x->(Y.put n r).v i=some x:=λi x hx=>hf.sub_put r i x (by rw [←hy.v];exact hx);have hll:∀i l,E.syl i=some l->(Y.put n r).l i=some l:=λi l hx=>by rw [hy.l]at hx;exact hx
 have hlo:∀i,i<64->(Y.put n r).v i=E.sy i:=λi hi=>by rw [hy.v];exact hf.low r i hi
 have st1:=st.with hv hll hlo;have cs:=st1.t.look s;have cx:=st1.t.look x;rw [hs]at cs;obtain ⟨av,ha0⟩:∃av,E.sy j=some av:=by
  have csY:=st.t.look s
  grind [Ac]
 have ha1:(Y.put n r).v j=some av:=hv _ _ ha0;rw [hy.v]at ha0;simp only [Am,Ap,ha0,XOp.run]at hr;split at hr
 case h_2=>cases hr
 rename_i m l hm;obtain ⟨xa,l',x1,x2,x3,x4,x5,rfl⟩:=ba (st.t.look x) hk harg (n:=m) (l:=l) (by rw [hy.v];exact hm) (UD hr hok);have x1':Ac (E.with (Y.put n r)) xa (a.eval x):=x1.with hv hll;have hl2:Am (E.with (Y.put n r)).sy l'=Am E.sy l':=by obtain ⟨vs,_,hcl,_⟩:=Ia (P:=P) st.r x1 x2 (zc' _) (x3 H λ_ _=>rfl);exact Lr hv hcl
 obtain ⟨E',v,w',g1,g2,g3,g4,g5,g6,_⟩:=dY (ty:=o.type) st1.r (n:=n) ht hi hz htx hnot hzl hsz cs x1' hk hroom x2 x3 x4 x5 ha1 (by grind) hok (Sy.put_same _ _ _);have g4:=g4 hy.res;obtain ⟨callee,cargs,ctypes⟩:=c;have h1:=DE h1;have h2:=DE h2;subst hc h1 h2
 refine ⟨E',.value v,v,w',?_,.inl rfl,(Ag.with_leF k hlo).trans ⟨λi x _ hx=>g2.1 i x hx,g2.2.1,g2.2.2.1,g3,λi _=>by rw [g2.2.2.2.1]⟩,⟨g2.2.2.2.1,g2.2.2.2.2,g4⟩,
  ⟨⟨st1.t.size,st1.t.le,λt ht=>(st1.t.con t ht).sub g2,st1.t.gl.sub g2⟩,g5,st1.d.sub g2⟩,g6⟩
 unfold execOp
 grind [resolve,Sem.run_bind,Sem.run_pure,Result.andThen_ok,invoke,builtin]
def LR:List AV->Bool
 |[_,b]=>match b with
  | .agg l=>Nat.blt 0 (Bp l)
  | .vsl n _ _=>Nat.blt 0 n
  |_=>false
 |_=>false
def HQ:List AV->Option Nat
 |[_,b]=>match b with
  | .sym i=>some i
  |_=>none
 |_=>none
def IP (s:Nat->Option AV) (i:Nat):Prop:=∃n z cs,s i=some (.vsl (n+1) z cs)
omit [Gl]in
def gA {H:AHeap} {sz:Nat} {x:AV} {l:List AV} (h:KM H sz x=some (.agg l)):0<sz/\∃len,l.length=len*sz:=by
 unfold KM at h;split at h
 .split at h
  .split at h
   .grind [za',BW,ze']
   cases h
  cases h
 all_goals grind
def vZ {P:Program} {N:Nat} {o:Oper} {T:Tm} {H:AHeap} {id sz n:Nat} {op:XOp} {ag:List AV} (ha:J8 P T H o=some (id,sz,op,ag)) {r:AV} (hok:okC r=true)
  {B:World} {pr:Nat->Prop} {E:Ag} {a:Act} {w:World} (hpos:LR ag=true\/∃i,HQ ag=some i/\IP E.sy i) (hr:op.run P (Am E.sy ag)=some r) (hn:E.sy n=some r) (hT:Bc E N T a.tmps) (hrel:Ao B pr E H w):
  (∃c,o.op=.call c)/\∃E' v w',(execOp a.eval o).run P w=.ok (.value v) w'/\E.le E'/\Ao B pr E' ((H.erase id).push (.syl n)) w'/\Ac E' (.slx H.next sz n) v:=by
 unfold J8 at ha;split at ha
 case h_2=>cases ha
 rename_i c ho;split at ha
 case h_2=>cases ha
 rename_i b hc;split at ha
 case h_2=>cases ha
 split at ha
 case h_2=>cases ha
 rename_i s x t tx h1 h2;split at ha
 case h_2=>cases ha
 rename_i id' sz' i hs;split at ha
 case h_2=>cases ha
 rename_i j hk;split at ha
 case h_2=>cases ha
 rename_i hji;split at ha
 case h_2=>cases ha
 rename_i e ht;split at ha
 case h_2=>cases ha
 rename_i info hi;split at ha
 case h_2=>cases ha
 rename_i z hz;split at ha
 case h_2=>cases ha
 rename_i dx htx;split at ha
 case h_2=>cases ha
 rename_i hb;split at ha
 case h_2=>cases ha
 rename_i bb harg;cases ha;refine ⟨⟨c,ho⟩,?_⟩;obtain ⟨hji,hroom⟩:=Aq hji;have hji:=za' hji;subst hji;obtain ⟨hnot,hb⟩:=Aq hb;obtain ⟨hzl,hsz⟩:=Aq hb;have hsz:=za' hsz;have cs:=hT.look s;rw [hs]at cs;obtain ⟨av,ha0⟩:∃av,E.sy j=some av:=by
  grind [Ac]
 simp only [Am,Ap,ha0,XOp.run]at hr;split at hr
 case h_2=>cases hr
 rename_i m l hm;obtain ⟨xa,l',x1,x2,x3,x4,x5,rfl⟩:=ba (hT.look x) hk harg (n:=m) (l:=l) hm (UD hr hok);obtain ⟨E',v,w',g1,g2,g3,g4,g5,g6,g7⟩:=dY (ty:=o.type) hrel (n:=n) ht hi hz htx hnot hzl hsz cs x1 hk hroom x2 x3 x4 x5 ha0 hr hok hn;have hm0:0<m:=by
  rcases hpos with hpos|⟨i,hi,nn,zz,cc,hcc⟩
  rotate_left
  .cases bb with
   |sym k=>
    cases hi;simp only [Ap,hcc,Option.getD_some,DC,C6]at hm
    grind
   |_=>cases hi
  cases bb with
  |vsl n0 z0 c0=>
   have hp:0<n0:=by have:Nat.blt 0 n0=true:=hpos;simp_all
   grind [Ap,DC,C6]
  |agg l0=>
   have hp:0<l0.length:=by
    have:Nat.blt 0 (Bp l0)=true:=hpos
    grind [BW,ze']
   have hm1:=(Prod.mk.inj (Option.some.inj hm)).1;rw [←hm1];obtain ⟨h0,len,hl⟩:=gA harg;rw [BW,IU,hl];show 0<len*sz/sz;simp_all
  |_=>cases hpos
 have h1:=DE h1;have h2:=DE h2;refine ⟨E',v,w',?_,g7 hm0,g5,g6⟩;unfold execOp;simp only [resolve,Sem.run_bind,Sem.run_pure,Result.andThen_ok,invoke,builtin];simp_all
def Fa (T:Tm) (o:Oper):Option (XOp×List AV):=match o.op with
 | .call c=>match c.callee with
   | .builtin b=>match b with
     | .len=>match c.args.toList,c.argTypes.toList with
       |[x],[t]=>match look T x with
        | .slx id sz i=>some (.len t,[.sym i])
        |_=>none
       |_,_=>none
     |_=>none
   |_=>none
 |_=>none
def Ue (s:Nat->Option AV) (T:Tm) (x:Operand):AV:=match look T x with
 | .slx id sz i=>match s i with
   |some .nsl=>.nsl
   |some (.vsl len _ _)=>.sl id 0 len sz none
   |_=>.opq
 |a=>a
def uT {E:Ag} {N:Nat} {T:Tm} {a:Act} (h:Bc E N T a.tmps) (x:Operand):Ac E (Ue E.sy T x) (a.eval x):=by
 have hl:=h.look x;unfold Ue;split
 .rename_i id sz i he;rw [he]at hl;obtain ⟨a,h1,⟨rfl,h2⟩|⟨len,cs,rfl,b,o,n,c,off',q1,q2,q3,q4,q5,q6⟩⟩:=hl<;>grind [Ac]
 exact hl
def eT {P:Program} {N:Nat} {o:Oper} {T:Tm} {H:AHeap} {op:XOp} {ag:List AV} (ha:Fa T o=some (op,ag)) {B:World} {pr:Nat->Prop} {E:Ag} {a:Act} {w:World} {r:AV} (hr:op.run P (Am E.sy ag)=some r) (ht:Bc E N T a.tmps) (hrel:Ao B pr E H w):
  ∃E' n v w',(execOp a.eval o).run P w=.ok n w'/\(n=.value v\/(n=.skip/\v=undef))/\E.le E'/\Ao B pr E' H w'/\Ac E' r v:=by
 unfold Fa at ha;split at ha
 case h_2=>cases ha
 rename_i c ho;split at ha
 case h_2=>cases ha
 rename_i b hc;split at ha
 case h_2=>cases ha
 split at ha
 case h_2=>cases ha
 rename_i x t h1 h2;split at ha
 case h_2=>cases ha
 rename_i id sz i hx;cases ha;have hl:=ht.look x;rw [hx]at hl;obtain ⟨av,e1,hl⟩:=hl;have e2:=e1;simp only [Am,Ap,e2,XOp.run]at hr;have hev:BZ P (Ue E.sy T) H o=some (.val r H):=by
  unfold BZ JD;simp only [ho,hc,h1,h2];unfold Ue;simp only [hx];rcases hl with ⟨rfl,_⟩|⟨len,cs,rfl,_⟩
  .have:EG P H t .nsl=some r:=by exact hr
   grind [oV]
  .simp only [e1];have:EG P H t (.sl id 0 len sz none)=some r:=by unfold EG at hr⊢;split at hr;cases hr;exact hr;exact hr;cases hr;cases hr
   simp only [this,oV]
 obtain ⟨E',n,v,w',h1,h2,h3,h4,h5⟩:=YT hrel (λx=>uT ht x) hev
 grind
def vo {P:Program} {N:Nat} {o:Oper} {T:Tm} {H:AHeap} {op:XOp} {ag:List AV} (ha:Fa T o=some (op,ag)) {Y:Sy} {r:AV} (hr:op.run P (Am Y.v ag)=some r)
  {B:World} {pr:Nat->Prop} {E:Ag} {a:Act} {w:World} {D:Bg} (hy:E.At Y) (st:St P B pr N E T H D a w):
  ∃E' n v w',(execOp a.eval o).run P w=.ok n w'/\(n=.value v\/(n=.skip/\v=undef))/\E.le E'/\St P B pr N E' T H D a w'/\Ac E' r v:=by
 obtain ⟨E',n,v,w',h1,h2,h3,h4,h5⟩:=eT ha (by rw [hy.v];exact hr) st.t st.r;exact ⟨E',n,v,w',h1,h2,h3,⟨st.t.mono h3,h4,st.d.mono h3⟩,h5⟩
omit [Gl]in
def Ao.setTo {B:World} {pr:Nat->Prop} {E:Ag} {H:AHeap} {w:World} (h:Ao B pr E H w) {id:Nat} {k0 k:AZ} (hk:H.get id=some k0) (hb:∀own:Nat->Option Nat,Bz E w own id k0->Bz E w own id k):Ao B pr E (H.set id k) w:=by
 have hlt:=AHeap.get_lt hk;obtain ⟨own,g1,g2⟩:=h.own;refine { own:=⟨own,λid' k' hk'=>?_,g2⟩,imm:=h.imm,ib:=h.ib,fresh:=h.fresh,resv:=h.resv,vds:=h.vds,szs:=h.szs,prot:=h.prot,size:=h.size,os:=h.os,output:=h.output }
 grind [AHeap.get_set_same,AHeap.get_set_ne]
def frz (F:AHeap) (a:AV):AV:=match Fd 100 F a with
 |some b=>b
 |none=>a
def yK {P:Program} {N k:Nat} {Y:Sy} {T:Tm} {H F H':AHeap} {D:Bg} (hF:∀id k,F.get id=some k->H.get id=some k) (hH:∀id k,H'.get id=some k->H.get id=some k/\F.get id=none) (hn:H'.next=H.next) (hh:H'.hi=H.hi):
  AY P N k Y T H D Y (B1 (frz F) T) H' D:=λB pr E a w hy st=>by
 obtain ⟨E',h1,h2,h3,h4,h5,h6,h7⟩:=st.r.freezeS hF hH hn hh;refine ⟨E',⟨λi x _ hx=>by grind,h1.2.1,h1.2.2.1,h4,λi _=>by rw [h1.2.2.2.1]⟩,⟨h1.2.2.2.1.trans hy.v,h1.2.2.2.2.trans hy.l,by rw [h3,h5];exact hy.res⟩,⟨⟨st.t.size,st.t.le,λt ht=>?_,st.t.gl.sub h1⟩,h6,st.d.sub h1⟩⟩;rw [EW];unfold frz;have:=st.t.con t ht;split;rename_i b hb;exact Rs st.r hF h1 h7 100 _ _ _ hb this;exact this.sub h1
mutual
def kX:Nat->AHeap->AV->List Nat->List Nat
 |0,_,_,acc=>acc
 |n+1,H,a,acc=>match a with
  | .sl id _ _ _ _=>bP n H id acc
  | .ptr id _=>bP n H id acc
  | .slx id _ _=>bP n H id acc
  | .vptr cs=>Jr n H cs acc
  | .vsl _ _ cs=>Jr n H cs acc
  | .fn _ cs=>Jr n H cs acc
  | .agg cs=>Jr n H cs acc
  | .tup cs=>Jr n H cs acc
  | .iface _ a=>kX n H a acc
  |_=>acc
def bP:Nat->AHeap->Nat->List Nat->List Nat
 |0,_,_,acc=>acc
 |n+1,H,id,acc=>match Bx id acc with
  |true=>acc
  |false=>match H.get id with
   |some (.cells cs)=>Jr n H cs (id::acc)
   |some (.syl _)=>id::acc
   |_=>acc
def Jr:Nat->AHeap->List AV->List Nat->List Nat
 |0,_,_,acc=>acc
 |n+1,H,l,acc=>match l with
  |[]=>acc
  |a::r=>Jr n H r (kX n H a acc)
end
def FH (H:AHeap):List Nat->AHeap
 |[]=>⟨AD,0,0⟩
 |id::r=>match H.get id with
  |some k=>(FH H r).set id k
  |none=>FH H r
def GA (H:AHeap):List Nat->AHeap
 |[]=>H
 |id::r=>(GA H r).erase id
section
omit [Gl]
theorem NB {H:AHeap}:∀(l:List Nat) (id:Nat) (k:AZ),(FH H l).get id=some k->H.get id=some k/\id∈l
 |[],id,k,h=>by
  grind [PV,FH]
 |i::r,id,k,h=>by unfold FH at h;split at h;rename_i k' hk;have hi:=AHeap.get_lt hk;by_cases e:i=id;subst e;rw [AHeap.get_set_same _ hi]at h;cases h;exact ⟨hk,zf' ..⟩;rw [AHeap.get_set_ne _ hi e]at h;obtain ⟨h1,h2⟩:=NB r id k h;exact ⟨h1,zd' _ h2⟩;obtain ⟨h1,h2⟩:=NB r id k h;exact ⟨h1,zd' _ h2⟩
def VE {H:AHeap}:∀(l:List Nat) (id:Nat) (k:AZ),(GA H l).get id=some k->H.get id=some k/\id∉l
 |[],id,k,h=>⟨h,λh=>by cases h⟩
 |i::r,id,k,h=>by have h:((GA H r).erase i).get id=some k:=h;have e:i≠id:=λe=>(by subst e;rw [AHeap.get_erase_same]at h;cases h);rw [AHeap.get_erase_ne _ e]at h;obtain ⟨h1,h2⟩:=VE r id k h;refine ⟨h1,λhm=>?_⟩;rcases List.mem_cons.1 hm with hm|hm;exact e hm.symm;exact h2 hm
def Ou {H:AHeap}:∀l,(GA H l).next=H.next/\(GA H l).hi=H.hi
 |[]=>⟨rfl,rfl⟩
 |i::r=>Ou r
end
def Tj {P:Program} {N k:Nat} {Y:Sy} {T:Tm} {H:AHeap} {D:Bg} (l:List Nat):AY P N k Y T H D Y (B1 (frz (FH H l)) T) (GA H l) D:=by refine yK (λid k h=>(NB l id k h).1) (λid k h=>?_) (Ou l).1 (Ou l).2;obtain ⟨h1,h2⟩:=VE l id k h;cases hf:(FH H l).get id<;>grind [FH,get,id,absurd,NB]
def KU (F:AHeap):List AV->List AV
 |[]=>[]
 |a::r=>frz F a::KU F r
omit [Gl]in
theorem cW (F:AHeap):∀(l:List AV) (i:Nat),(KU F l)[i]? =(l[i]?).map (frz F)
 |[],i=>by simp [KU]
 |a::r,0=>by simp [KU]
 |a::r,i+1=>by simpa [KU]using cW F r i
omit [Gl]in
theorem fG (F:AHeap):∀l:List AV,(KU F l).length=l.length
 |[]=>rfl
 |a::r=>by simp [KU,fG F r]
def Wg (F:AHeap) (id:Nat) (H:AHeap):AHeap:=match H.get id with
 |some (.cells cs)=>H.set id (.cells (KU F cs))
 |_=>H
def vJ {P:Program} {N k:Nat} {Y:Sy} {T:Tm} {H F H':AHeap} {D:Bg} (rid:Nat) (hF:∀id k,F.get id=some k->H.get id=some k) (hH:∀id k,H'.get id=some k->H.get id=some k/\F.get id=none) (hn:H'.next=H.next) (hh:H'.hi=H.hi):
  AY P N k Y T H D Y (B1 (frz F) T) (Wg F rid H') D:=λB pr E a w hy st=>by
 obtain ⟨E',h1,h2,h3,h4,h5,h6,h7⟩:=st.r.freezeS hF hH hn hh;have hcon:∀x v,Ac E x v->Ac E' (frz F x) v:=λx v hc=>by unfold frz;split;rename_i b hb;exact Rs st.r hF h1 h7 100 _ _ _ hb hc;exact hc.sub h1
 refine ⟨E',⟨λi x _ hx=>by grind,h1.2.1,h1.2.2.1,h4,λi _=>by rw [h1.2.2.2.1]⟩,⟨h1.2.2.2.1.trans hy.v,h1.2.2.2.2.trans hy.l,by rw [h3,h5];exact hy.res⟩,⟨⟨st.t.size,st.t.le,λt ht=>?_,st.t.gl.sub h1⟩,?_,st.d.sub h1⟩⟩;rw [EW];exact hcon _ _ (st.t.con t ht)
 .unfold Wg;split
  .rename_i cs hk;have hk0:=(hH rid _ hk).1;refine h6.setTo hk λown hrow=>?_;rcases hrow with ⟨_,hv⟩|⟨b,o,q1,q2,arr,t,q3,q4,q5,q6⟩;exact hv.elim
   .rw [h2]at q1;obtain ⟨arr2,t2,e1,e2,e3,e4⟩:=st.r.blk hk0 q1;refine .inr ⟨b,o,by grind,q2,arr,t,q3,q4,by rw [fG];exact q5,λi x hx=>?_⟩
    grind [cW]
  exact h6
def cH {P:Program} {N k:Nat} {Y:Sy} {T:Tm} {H:AHeap} {D:Bg} (rid:Nat) (l:List Nat):AY P N k Y T H D Y (B1 (frz (FH H l)) T) (Wg (FH H l) rid (GA H l)) D:=by refine vJ rid (λid k h=>(NB l id k h).1) (λid k h=>?_) (Ou l).1 (Ou l).2;obtain ⟨h1,h2⟩:=VE l id k h;cases hf:(FH H l).get id<;>grind [FH,get,id,absurd,NB]
def B7:List (AV×AV×Nat)->List AV
 |[]=>[]
 |(k,v,_)::r=>Gk k::v::B7 r
def Mv:List (AV×AV×Nat)->Bool
 |[]=>true
 |(k,_,_)::r=>(match k with
  | .sym _=>false
  |_=>true)&&Mv r
section
omit [Gl]
theorem Yj:∀es:List (AV×AV×Nat),(B7 es).length=es.length*2
 |[]=>rfl
 |(k,v,_)::r=>by simp only [B7,List.length_cons,Yj r];omega
def gH {E:Ag}:∀{cs:List AV} {ms:List MapEntry},Ex E cs ms->∃es,ConE E es ms/\B7 es=cs/\es.length=ms.length
 |[],ms,h=>⟨[],h,rfl,by grind [Ex]⟩
 |[_],ms,h=>h.elim
 |k::v::r,ms,h=>by obtain ⟨e,t,rfl,h2,h3,h4⟩:=h;obtain ⟨es,g1,g2,g3⟩:=gH h4;exact ⟨(Ku k,v,e.born)::es,⟨e,t,rfl,h2.2.con,h3.con,rfl,g1⟩,by simp only [B7,g2,h2.1],by simp [g3]⟩
def xG {s:Nat->Option AV} {k:AV} (h:∀i,k≠ .sym i):Ap s (Gk k)=Gk (Ap s k):=by cases k<;>first|rfl|(exact absurd rfl (h _))
theorem uI (k:AV):Bf (Gk k)=Bf k:=by cases k<;>rfl
def tl {k:AV} (h:okC (Gk k)=true):∀i,k≠ .sym i:=λi e=>by subst e;cases h
theorem ZV:∀{es:List (AV×AV×Nat)},Ak (B7 es)=true->Mv es=true
 |[],_=>rfl
 |(k,v,b)::es,h=>by
  simp only [B7,Ak]at h;have h1:okC (Gk k)=true:=by
   cases hk:okC (Gk k)with
   |true=>rfl
   |false=>rw [hk]at h;cases h
  rw [h1]at h;have h2:Ak (B7 es)=true:=by
   cases hv:okC v with
   |true=>rw [hv]at h;exact h
   |false=>rw [hv]at h;cases h
  have:=tl h1;simp only [Mv,ZV h2,Bool.and_true]<;>(cases k<;>first|rfl|(exact absurd rfl (this _)))
def YX {E:Ag}:∀{es:List (AV×AV×Nat)} {ms:List MapEntry},Bi (B7 es)=true->Mv es=true->ConE E es ms->Ex E (Am E.sy (B7 es)) ms
 |[],ms,_,_,h=>h
 |(k,v,b)::es,ms,hok,hke,h=>by
  simp only [B7,Bi,uI]at hok;obtain ⟨e,t,rfl,h2,h3,_,h5⟩:=h;simp only [Mv,Bool.and_eq_true]at hke;have hns:∀i,k≠ .sym i:=λi e=>(by subst e;cases hke.1);cases hk:Bf k with
  |false=>grind
  |true=>
   rw [hk]at hok;cases hv:Bf v with
   |false=>grind
   |true=>rw [hv]at hok;refine ⟨e,t,rfl,?_,C7 hv h3,YX hok hke.2 h5⟩;rw [xG hns,Vv];exact ⟨rfl,C7 hk h2⟩
theorem ConE.length {E:Ag}:∀{es:List (AV×AV×Nat)} {ms:List MapEntry},ConE E es ms->ms.length=es.length
 |[],ms,h=>by grind [Go.Sx.ConE]
 |(k,v,b)::es,ms,h=>by obtain ⟨e,t,rfl,_,_,_,h5⟩:=h;simp [h5.length]
end
section
variable {P:Program} {B:World} {pr:Nat->Prop} {E:Ag} {H:AHeap} {w:World}
omit [Gl]in
def Ao.expandM (h:Ao B pr E H w) {id i n:Nat} {cs:List AV} (hk:H.get id=some (.mpl i)) (hi:E.sy i=some (.vsl n 2 cs)):∃es clock,Ao B pr E (H.set id (.map es clock)) w/\B7 es=cs/\es.length=n:=by obtain ⟨own,g1,_⟩:=h.own;obtain ⟨_,hv⟩|⟨b,o,h1,h2,h0,n',cs',e,es',clock,h3,h4,h5⟩:=g1 id _ hk;exact hv.elim;rw [hi]at e;cases e;obtain ⟨es,q1,q2,q3⟩:=gH h5;refine ⟨es,clock,h.setTo hk λown' hr=>?_,q2,by grind⟩;obtain ⟨_,hv⟩|⟨b',o',k1,k2,k0,n',cs',e,es2,clock2,k3,k4,k5⟩:=hr;exact hv.elim;rw [h1]at k1;cases k1;exact .inr ⟨b,o,h1,k2,h0,es',h3,q1⟩
omit [Gl]in
def Ao.collapseM (h:Ao B pr E H w) {id n clock:Nat} {es:List (AV×AV×Nat)} (hk:H.get id=some (.map es clock)) (hs:Bi (B7 es)=true) (hke:Mv es=true) (hn:E.sy n=some (.vsl es.length 2 (Am E.sy (B7 es)))):Ao B pr E (H.set id (.mpl n)) w:=
 h.setTo hk λown hr=>by obtain ⟨_,hv⟩|⟨b,o,k1,k2,k0,es',k3,k4⟩:=hr;exact hv.elim;exact .inr ⟨b,o,k1,k2,k0,es.length,_,hn,es',clock,k3,by rw [←Array.length_toList,k4.length],YX hs hke k4⟩
end
omit [Gl]in
theorem p2_ {d:TypeDesc} {k q:AV}:JC d k (Gk q)=JC d k q:=by cases q<;>cases d<;>cases k<;>rfl
omit [Gl]in
def cX {d:TypeDesc} {k v:AV} (hk:Gk k=k):∀{es:List (AV×AV×Nat)} {i:Nat} {l:List AV},KL d k v (B7 es)=some l->
  (∃j a,FA d k es i=some (some (i+j,a))/\B7 (LS es j v)=l)\/(FA d k es i=some none/\∀c,B7 (Ik es (k,v,c))=l)
 |[],i,l,h=>by simp only [B7,KL,A2]at h;subst h;exact .inr ⟨rfl,λc=>by simp only [Ik,B7,hk]⟩
 |(q,x,b)::es,i,l,h=>by
  simp only [B7,KL,p2_]at h;split at h;rename_i hq;cases h;exact .inl ⟨0,x,by simp_all [FA],rfl⟩
  .rename_i hq;split at h
   .rename_i l' hl;cases h;rcases cX hk (i:=i+1) hl with ⟨j,a,g1,g2⟩|⟨g1,g2⟩
    .refine .inl ⟨j+1,a,?_,by grind [LS,B7]⟩
     grind [FA]
    grind [FA,Ik,B7]
   cases h
  cases h
def aJ (P:Program) (T:Tm) (H:AHeap) (o:Oper):Option (Nat×XOp×List AV):=match o.op with
 | .mapUpdate t m k x=>match look T m with
   | .map id=>match H.get id with
     |some (.mpl i)=>match Bf (look T k)&&Bf (look T x)with
      |true=>some (id,.mput t,[.sym i,look T k,look T x])
      |false=>none
     |_=>none
   |_=>none
 |_=>none
def qY {P:Program} {N kk:Nat} {o:Oper} {T:Tm} {H:AHeap} {id n:Nat} {op:XOp} {ag:List AV} (ha:aJ P T H o=some (id,op,ag)) {Y:Sy} (hf:AA Y n) {r:AV} (hr:op.run P (Am Y.v ag)=some r) (hok:okC r=true)
  {B:World} {pr:Nat->Prop} {E:Ag} {a:Act} {w:World} (hy:E.At Y) (st:St P B pr N E T H [] a w):
  ∃E' nx v w',(execOp a.eval o).run P w=.ok nx w'/\(nx=.value v\/(nx=.skip/\v=undef))/\E.leF kk E'/\E'.At (Y.put n r)/\St P B pr N E' T (H.set id (.mpl n)) [] a w'/\Ac E' (.tup []) v:=by
 unfold aJ at ha;split at ha
 case h_2=>cases ha
 rename_i t m k x ho;split at ha
 case h_2=>cases ha
 rename_i id' hm;split at ha
 case h_2=>cases ha
 rename_i i hk;split at ha
 case h_2=>cases ha
 rename_i hs;cases ha;obtain ⟨s1,s2⟩:=Aq hs;have hlt:=AHeap.get_lt hk;simp only [Am,XOp.run]at hr;split at hr
 case h_2=>cases hr
 rename_i kt et ht;split at hr
 case h_2=>cases hr
 rename_i d hkd;unfold ar at hr;split at hr
 case h_2=>cases hr
 rename_i hko;split at hr
 case h_2=>cases hr
 rename_i nn z cs hiv;split at hr
 case h_2=>cases hr
 rename_i hz;obtain ⟨hz,_⟩:=Aq hz;have hz:=za' hz;subst hz;split at hr
 case h_2=>cases hr
 rename_i l hl;cases hr;have hv:∀i x,E.sy i=some x->(Y.put n (.vsl (Nat.div (Bp l) 2) 2 l)).v i=some x:=λi x hx=>hf.sub_put _ i x (by rw [←hy.v];exact hx);have hll:∀i x,E.syl i=some x->(Y.put n (.vsl (Nat.div (Bp l) 2) 2 l)).l i=some x:=λi x hx=>by rw [hy.l]at hx;exact hx
 have hlo:∀i,i<64->(Y.put n (.vsl (Nat.div (Bp l) 2) 2 l)).v i=E.sy i:=λi hi=>by rw [hy.v];exact hf.low _ i hi
 have hyi:Y.v i=some (.vsl nn 2 cs):=by
  grind [Ap]
 obtain ⟨es,clock,hrX,hfl,hlen⟩:=st.r.expandM hk (by rw [hy.v];exact hyi);have ck:Ac E (Ap E.sy (look T k)) (a.eval k):=(C7 s1 (st.t.look k)).con;have cx:Ac E (Ap E.sy (look T x)) (a.eval x):=(C7 s2 (st.t.look x)).con;have cm:Ac E (.map id) (a.eval m):=by rw [←hm];exact st.t.look m
 rw [←hy.v]at hko hl;rw [←hfl]at hl;have hgX:(H.set id (.map es clock)).get id=some (.map es clock):=AHeap.get_set_same H hlt _;have key:∃es2 c2,IA P (H.set id (.map es clock)) t (.map id) (Ap E.sy (look T k)) (Ap E.sy (look T x))=some (.tup [],(H.set id (.map es clock)).set id (.map es2 c2))/\B7 es2=l:=by
  unfold IA;have hkk:Gk (Ap E.sy (look T k))=Ap E.sy (look T k):=by revert hko;cases Ap E.sy (look T k)<;>first|(intro _;rfl)|(intro h;exact absurd h (by cases d<;>simp [Ih]))
  rcases cX hkk (i:=0) hl with ⟨j,q,g1,g2⟩|⟨g1,g2⟩<;>grind
 obtain ⟨es2,c2,hev,hfl2⟩:=key;obtain ⟨w',h1,h2,_⟩:=Tl hrX cm ck cx hev;have hokl:Ak l=true:=by grind [okC]
 have hg2:((H.set id (.map es clock)).set id (.map es2 c2)).get id=some (.map es2 c2):=AHeap.get_set_same _ hlt _;have hl2:Nat.div (Bp l) 2=es2.length:=by rw [BW,←hfl2,Yj];show es2.length*2/2=_;omega
 have h3:=(h2.with hv hll).collapseM (n:=n) hg2 (by grind [EM]) (ZV (by rw [hfl2];exact hokl)) (by rw [hfl2,EF _ hokl,←hl2];exact Sy.put_same _ _ _);have h4:Ao B pr (E.with (Y.put n (.vsl (Nat.div (Bp l) 2) 2 l))) (H.set id (.mpl n)) w':=h3.same (λj q hj=>by
  grind [AHeap.get_set_same,AHeap.get_set_ne]) rfl rfl
 have st1:=st.with hv hll hlo;refine ⟨_,.skip,undef,w',?_,.inr ⟨rfl,rfl⟩,Ag.with_leF kk hlo,⟨rfl,rfl,hy.res⟩,⟨st1.t,h4,st1.d⟩,GQ _⟩;simp_all [execOp]
omit [Gl]in
def lA {P:Program} {kt:TypeId} {k v:AV}:∀{es:List (AV×AV×Nat)} {i:Nat} {l:List AV},KQ P kt k v (B7 es)=some l->
  (∃j q a,Fs P kt k es i=some (some (i+j,q,a))/\Rj k q=true/\B7 (K7 es j k v)=l)\/(Fs P kt k es i=some none/\∀c,B7 (Ik es (k,v,c))=l)
 |[],i,l,h=>by simp only [B7,KQ,A2]at h;subst h;exact .inr ⟨rfl,λc=>rfl⟩
 |(q,x,b)::es,i,l,h=>by
  simp only [B7,KQ,Vv]at h;split at h;rename_i hq;split at h;rename_i hb;cases h;exact .inl ⟨0,q,x,by simp_all [Fs],hb,rfl⟩;cases h
  .rename_i hq;split at h
   .rename_i l' hl;cases h;rcases lA (i:=i+1) hl with ⟨j,q',a,g1,g2,g3⟩|⟨g1,g2⟩
    .refine .inl ⟨j+1,q',a,?_,g2,by simp only [K7,B7,g3]⟩;simp only [Fs,hq];rw [show Nat.succ i=i+1 from rfl,g1]
     congr 3
     omega
    refine .inr ⟨?_,λc=>by simp only [Ik,B7,g2]⟩;simp only [Fs,hq];exact g1
   cases h
  cases h
def va_ (P:Program) (t:TypeId):Bool:=match P.underlying t with
 |some (.map kt _)=>match P.underlying kt with
  |some d=>Ix d
  |none=>false
 |_=>false
def ZI (P:Program) (T:Tm) (H:AHeap) (o:Oper):Option (Nat×XOp×List AV):=match o.op with
 | .mapUpdate t m k x=>match look T m with
   | .map id=>match H.get id with
     |some (.mpl i)=>match Bf (look T k)&&Bf (look T x)with
      |true=>some (id,.mpu t,[.sym i,look T k,look T x])
      |false=>none
     |_=>none
   |_=>none
 |_=>none
def rt_ {P:Program} {N kk:Nat} {o:Oper} {T:Tm} {H:AHeap} {id n:Nat} {op:XOp} {ag:List AV} (ha:ZI P T H o=some (id,op,ag)) {Y:Sy} (hf:AA Y n) {r:AV} (hr:op.run P (Am Y.v ag)=some r) (hok:okC r=true)
  {B:World} {pr:Nat->Prop} {E:Ag} {a:Act} {w:World} (hy:E.At Y) (st:St P B pr N E T H [] a w):
  ∃E' nx v w',(execOp a.eval o).run P w=.ok nx w'/\(nx=.value v\/(nx=.skip/\v=undef))/\E.leF kk E'/\E'.At (Y.put n r)/\St P B pr N E' T (H.set id (.mpl n)) [] a w'/\Ac E' (.tup []) v:=by
 unfold ZI at ha;split at ha
 case h_2=>cases ha
 rename_i t m k x ho;split at ha
 case h_2=>cases ha
 rename_i id' hm;split at ha
 case h_2=>cases ha
 rename_i i hk;split at ha
 case h_2=>cases ha
 rename_i hs;cases ha;obtain ⟨s1,s2⟩:=Aq hs;have hlt:=AHeap.get_lt hk;simp only [Am,XOp.run]at hr;split at hr
 case h_2=>cases hr
 rename_i kt et ht;split at hr
 case h_2=>cases hr
 rename_i d hkd;split at hr
 case h_2=>cases hr
 rename_i hko;split at hr
 case h_2=>cases hr
 rename_i nn z cs hiv;split at hr
 case h_2=>cases hr
 rename_i hz;obtain ⟨hz,_⟩:=Aq hz;have hz:=za' hz;subst hz;split at hr
 case h_2=>cases hr
 rename_i l hl;cases hr;have hv:∀i x,E.sy i=some x->(Y.put n (.vsl (Nat.div (Bp l) 2) 2 l)).v i=some x:=λi x hx=>hf.sub_put _ i x (by rw [←hy.v];exact hx);have hll:∀i x,E.syl i=some x->(Y.put n (.vsl (Nat.div (Bp l) 2) 2 l)).l i=some x:=λi x hx=>by rw [hy.l]at hx;exact hx
 have hlo:∀i,i<64->(Y.put n (.vsl (Nat.div (Bp l) 2) 2 l)).v i=E.sy i:=λi hi=>by rw [hy.v];exact hf.low _ i hi
 have hyi:Y.v i=some (.vsl nn 2 cs):=by
  grind [Ap]
 obtain ⟨es,clock,hrX,hfl,hlen⟩:=st.r.expandM hk (by rw [hy.v];exact hyi);have ck:Ac E (Ap E.sy (look T k)) (a.eval k):=(C7 s1 (st.t.look k)).con;have cx:Ac E (Ap E.sy (look T x)) (a.eval x):=(C7 s2 (st.t.look x)).con;have cm:Ac E (.map id) (a.eval m):=by rw [←hm];exact st.t.look m
 rw [←hy.v]at hko hl;rw [←hfl]at hl;have hgX:(H.set id (.map es clock)).get id=some (.map es clock):=AHeap.get_set_same H hlt _;have key:∃es2 c2,IA P (H.set id (.map es clock)) t (.map id) (Ap E.sy (look T k)) (Ap E.sy (look T x))=some (.tup [],(H.set id (.map es clock)).set id (.map es2 c2))/\B7 es2=l:=by obtain ⟨hn,_⟩:=Aq hko;have hkf:Ih d (Ap E.sy (look T k))=false:=(by cases d<;>first|rfl|(simp [Ix]at hn));unfold IA;rcases lA (i:=0) hl with ⟨j,q,a',g1,g2,g3⟩|⟨g1,g2⟩;refine ⟨K7 es j _ _,clock,?_,g3⟩;simp only [ht,hkd,hkf,QR,hko,hgX,g1,g2,Cw];refine ⟨Ik es (_,_,clock),Nat.succ clock,?_,g2 _⟩;simp only [ht,hkd,hkf,QR,hko,hgX,g1]
 obtain ⟨es2,c2,hev,hfl2⟩:=key;obtain ⟨w',h1,h2,_⟩:=Tl hrX cm ck cx hev;have hokl:Ak l=true:=by grind [okC]
 have hg2:((H.set id (.map es clock)).set id (.map es2 c2)).get id=some (.map es2 c2):=AHeap.get_set_same _ hlt _;have hl2:Nat.div (Bp l) 2=es2.length:=by rw [BW,←hfl2,Yj];show es2.length*2/2=_;omega
 have h3:=(h2.with hv hll).collapseM (n:=n) hg2 (by grind [EM]) (ZV (by rw [hfl2];exact hokl)) (by rw [hfl2,EF _ hokl,←hl2];exact Sy.put_same _ _ _);have h4:Ao B pr (E.with (Y.put n (.vsl (Nat.div (Bp l) 2) 2 l))) (H.set id (.mpl n)) w':=h3.same (λj q hj=>by
  grind [AHeap.get_set_same,AHeap.get_set_ne]) rfl rfl
 have st1:=st.with hv hll hlo;refine ⟨_,.skip,undef,w',?_,.inr ⟨rfl,rfl⟩,Ag.with_leF kk hlo,⟨rfl,rfl,hy.res⟩,⟨st1.t,h4,st1.d⟩,GQ _⟩;simp_all [execOp]
def qF (o:Oper):TypeId:=match o.op with
 | .mapUpdate t _ _ _=>t
 |_=>0
def YN (P:Program) (T:Tm) (H:AHeap) (o:Oper):Option (Nat×XOp×List AV):=match va_ P (qF o)with
 |true=>ZI P T H o
 |false=>aJ P T H o
def rI {P:Program} {N kk:Nat} {o:Oper} {T:Tm} {H:AHeap} {id n:Nat} {op:XOp} {ag:List AV} (ha:YN P T H o=some (id,op,ag)) {Y:Sy} (hf:AA Y n) {r:AV} (hr:op.run P (Am Y.v ag)=some r) (hok:okC r=true)
  {B:World} {pr:Nat->Prop} {E:Ag} {a:Act} {w:World} (hy:E.At Y) (st:St P B pr N E T H [] a w):
  ∃E' nx v w',(execOp a.eval o).run P w=.ok nx w'/\(nx=.value v\/(nx=.skip/\v=undef))/\E.leF kk E'/\E'.At (Y.put n r)/\St P B pr N E' T (H.set id (.mpl n)) [] a w'/\Ac E' (.tup []) v:=by
 unfold YN at ha;split at ha;exact rt_ ha hf hr hok hy st;exact qY ha hf hr hok hy st
def Yu (T:Tm) (H:AHeap) (o:Oper):Option (XOp×List AV):=match o.op with
 | .call c=>match c.callee with
   | .builtin b=>match b with
     | .len=>match c.args.toList,c.argTypes.toList with
       |[x],[t]=>match look T x with
        | .map id=>match H.get id with
          |some (.mpl i)=>some (.mlen,[.sym i])
          |_=>none
        |_=>none
       |_,_=>none
     |_=>none
   |_=>none
 |_=>none
def bJ (P:Program) (o:Oper):Bool:=match o.op with
 | .call c=>match c.argTypes.toList with
   |[t]=>match P.underlying t with
    |some (.map _ _)=>true
    |_=>false
   |_=>false
 |_=>false
theorem ul {P:Program} {N:Nat} {o:Oper} {T:Tm} {H:AHeap} {op:XOp} {ag:List AV} (ha:Yu T H o=some (op,ag)) (hmt:bJ P o=true) {Y:Sy} {r:AV} (hr:op.run P (Am Y.v ag)=some r)
  {B:World} {pr:Nat->Prop} {E:Ag} {a:Act} {w:World} {D:Bg} (hy:E.At Y) (st:St P B pr N E T H D a w):
  ∃E' n v w',(execOp a.eval o).run P w=.ok n w'/\(n=.value v\/(n=.skip/\v=undef))/\E.le E'/\St P B pr N E' T H D a w'/\Ac E' r v:=by
 unfold Yu at ha;split at ha
 case h_2=>cases ha
 rename_i c ho;split at ha
 case h_2=>cases ha
 rename_i b hc;split at ha
 case h_2=>cases ha
 split at ha
 case h_2=>cases ha
 rename_i x t h1 h2;split at ha
 case h_2=>cases ha
 rename_i id hx;split at ha
 case h_2=>cases ha
 rename_i i hk;cases ha;unfold bJ at hmt;simp only [ho,h2]at hmt;split at hmt
 case h_2=>cases hmt
 rename_i kt et ht;simp only [Am,XOp.run]at hr;split at hr
 case h_2=>cases hr
 rename_i nn z cs hiv;split at hr
 case h_2=>cases hr
 cases hr;have hyi:E.sy i=some (.vsl nn z cs):=by
  rw [hy.v]
  grind [Ap]
 have cx:=st.t.look x;rw [hx]at cx;obtain ⟨b,hφ,hval⟩:=cx;obtain ⟨_,n',cs',f3,es',c0,f4,f5,_⟩:=st.r.blk hk hφ;have hgo:(getObj b).run P w=.ok (.map es' c0) w:=by simp [getObj,Sem.run,f4]
 refine ⟨E,.value (.int .i64 (.ofNat nn)),_,w,?_,.inl rfl,Ag.le_refl E,st,by simp [Ac]⟩;obtain ⟨callee,cargs,ctypes⟩:=c;have h1:=DE h1;have h2:=DE h2;subst hc h1 h2;unfold execOp;simp only [ho,resolve,Sem.run_bind,Sem.run_pure,Result.andThen_ok,invoke,builtin];simp_all [Builtin.len_,run_underlying,goInt]
end
section
variable [Gl]
def M8 (T:Tm) (H:AHeap) (o:Oper):Option (XOp×List AV):=match o.op with
 | .convert s d x=>match look T x with
   | .sl id off len sz cap=>match len with
     |0=>none
     |n+1=>match Cu H (.sl id off (Nat.succ n) sz cap) (Nat.succ n) 1 with
      |some l=>match Bi l&&Nat.beq (Bp l) (Nat.succ n)with
       |true=>some (.conv s d,[.vsl (Nat.succ n) 1 l])
       |false=>none
      |none=>none
   |_=>none
 |_=>none
omit [Gl]in
theorem lr (s:Nat->Option AV):∀l:List AV,(Am s l).length=l.length
 |[]=>rfl
 |a::r=>by simp only [Am,List.length_cons,lr s r]
omit [Gl]in
theorem zq {P:Program} {B:World} {pr:Nat->Prop} {E:Ag} {H:AHeap} {w:World} (hr:Ao B pr E H w) {src dst:TypeId} {id off n sz:Nat} {cap:Option Nat} {v:Value} {l:List AV} (hx:Ac E (.sl id off (n+1) sz cap) v)
  (hl:Cu H (.sl id off (n+1) sz cap) (n+1) 1=some l) (hso:Bi l=true) (hln:l.length=n+1) {r:AV} (h:Oa P h0 src dst (.vsl (n+1) 1 (Am E.sy l))=some r):Gives P B pr E w (convert src dst v) (r,H):=by
 unfold Oa at h;split at h
 case h_2=>cases h
 rename_i e hs hd;split at h
 case h_2=>cases h
 rename_i he;have hl2:Cu h0 (.vsl (n+1) 1 (Am E.sy l)) (n+1) 1=some (Am E.sy l):=by
  show CN (Nat.mul (n+1) 1) _=_;have e1:Nat.mul (n+1) 1=(Am E.sy l).length:=(by simp_all [lr]);rw [e1];have:∀q:List AV,CN q.length q=some q:=λq=>by
   induction q<;>grind [List.length_cons,CN]
  exact this _
 simp only [C6,hl2]at h;split at h
 case h_2=>cases h
 split at h
 case h_2=>cases h
 rename_i s hbs;cases h;obtain ⟨vs,hf,hL,_⟩:=Ia (P:=P) hr hx (m:=n+1) rfl (zc' _) hl;obtain ⟨ns,rfl,hns⟩:=bI hbs (JU hso hL).con;obtain ⟨b,o,m,c,off',_,_,rfl,_⟩:=hx;have hlc:(loadCells ⟨b,o+off',none⟩ (n+1)).run P w=.ok (ns.map (Value.int .u8)).toArray w:=by
  have hf':(loadCells ⟨b,o+off',none⟩ ((n+1)*1)).run P w=.ok (ns.map (Value.int .u8)).toArray w:=hf
  grind
 refine Gives.still hr (v:=.string ⟨⟨s⟩⟩) ?_ (by simp [Ac]);rw [run_convert_bytes_string w src dst e _ _ c hs he hd,run_bytesToString w _ _ c ns hlc];have e1:ns.foldl (λr n=>r.push (UInt8.ofNat n.toNat)) ByteArray.empty=(ns.map (λn=>UInt8.ofNat n.toNat)).foldl (λr b=>r.push b) ByteArray.empty:=by rw [List.foldl_map]
 simp_all [jx]
def js {P:Program} {B:World} {pr:Nat->Prop} {E:Ag} {T:Tm} {H:AHeap} {w:World} (hr:Ao B pr E H w) {σ:Operand->Value} (hσ:∀x,Ac E (look T x) (σ x)) {o:Oper} {op:XOp} {ag:List AV}
  (ha:M8 T H o=some (op,ag)) {r:AV} (h:op.run P (Am E.sy ag)=some r):Bh P B pr E w (execOp σ o) (.val r H):=by
 unfold M8 at ha;split at ha
 case h_2=>cases ha
 rename_i s d x ho;split at ha
 case h_2=>cases ha
 rename_i id off len sz cap hx;split at ha
 case h_1=>cases ha
 rename_i n;split at ha
 case h_2=>cases ha
 rename_i l hl;split at ha
 case h_2=>cases ha
 rename_i hb;cases ha;obtain ⟨hso,hln⟩:=Aq hb;have hln:=za' hln;rw [BW]at hln;have h:GP P h0 s d (.vsl (n+1) 1 (Am E.sy l))=some r:=h;have hbs:Oa P h0 s d (.vsl (n+1) 1 (Am E.sy l))=some r:=by
  unfold GP at h;have e1:Ob P s d (.vsl (n+1) 1 (Am E.sy l))=none:=by
   grind [Ob]
  rw [e1]at h;simp only at h;split at h
  .grind
  cases h
 grind [execOp,Bh.of_gives,zq]
theorem wo {P:Program} {N:Nat} {o:Oper} {T:Tm} {H:AHeap} {op:XOp} {ag:List AV} (ha:M8 T H o=some (op,ag)) {Y:Sy} {r:AV} (hr:op.run P (Am Y.v ag)=some r)
  {B:World} {pr:Nat->Prop} {E:Ag} {a:Act} {w:World} {D:Bg} (hy:E.At Y) (st:St P B pr N E T H D a w):
  ∃E' n v w',(execOp a.eval o).run P w=.ok n w'/\(n=.value v\/(n=.skip/\v=undef))/\E.le E'/\St P B pr N E' T H D a w'/\Ac E' r v:=by
 obtain ⟨E',n,v,w',h1,h2,h3,h4,h5⟩:=js st.r (λx=>st.t.look x) ha (by rw [hy.v];exact hr);exact ⟨E',n,v,w',h1,h2,h3,⟨st.t.mono h3,h4,st.d.mono h3⟩,h5⟩
end
section
def N1 (H:AHeap) (sz:Nat) (a:AV):Option (Nat×AV):=match a with
 | .nsl=>some (H.next,.nsl)
 | .sl id off len sz' cap=>match H.get id with
   |some (.cells cs)=>match Nat.beq off 0&&(Nat.beq sz' sz&&(Nat.beq (Bp cs) (Nat.mul len sz)&&(Bi cs&&Ds cs)))with
    |true=>some (id,.vsl len sz cs)
    |false=>none
   |_=>none
 |_=>none
def WQ {E:Ag} {H:AHeap} {sz:Nat} {x b:AV} {xv:Value} (hx:Ac E x xv) (h:KM H sz x=some b) {n:Nat} {l:List AV} (hb:DC sz (Ap E.sy b)=some (n,l)) (hok:Ak l=true):
  ∃xa l',Ac E xa xv/\C6 xa=some n/\Cu H xa n sz=some l'/\Ds l'=true/\Bi l'=true/\l=Am E.sy l':=by
 have closed:∀b,Bf b=true->x=b->(∀l,Ap E.sy b≠ .agg l)->DC sz (Ap E.sy b)=some (n,l)->∃xa l',Ac E xa xv/\C6 xa=some n/\Cu H xa n sz=some l'/\Ds l'=true/\Bi l'=true/\l=Am E.sy l':=by
  intro b hs e hna hb;subst e;have hc0:=C7 hs hx;have hoff:=gJ hc0;have:∃n',C6 (Ap E.sy x)=some n'/\∃l',Cu ⟨AD,0,0⟩ (Ap E.sy x) n' sz=some l'/\n=n'/\l=l':=by
   unfold DC at hb
   grind
  obtain ⟨_,h1,_,h2,rfl,rfl⟩:=this;refine ⟨_,l,hc0.con,h1,?_,ba.okL_allOne hok,EM hok,(EF _ hok).symm⟩
  grind [eB]
 unfold KM at h;split at h;rename_i id2 off len sz' cap;split at h;rename_i l' hl;split at h;rename_i hbb;cases h;obtain ⟨b1,hbb⟩:=Aq hbb;obtain ⟨b2,hbb⟩:=Aq hbb;obtain ⟨b3,b4⟩:=Aq hbb;have b3:=za' b3;rw [BW]at b3;have b3:l'.length=len*sz:=b3;have b4:0<sz:=(by simp_all);simp only [Ap,DC,A2,Prod.mk.injEq]at hb;obtain ⟨e1,e2⟩:=hb;have e1:(Am E.sy l').length/sz=n:=(by rw [←e1,BW];rfl);rw [IU,b3,Nat.mul_div_cancel _ b4]at e1;subst e1;exact ⟨_,l',hx,rfl,hl,b2,b1,e2.symm⟩;cases h;cases h;cases h;refine closed _ rfl rfl (λl e=>?_) hb;have hx':=hx;obtain ⟨a,q1,q2,_⟩:=hx';simp only [Ap,q1]at e;subst e;cases q2;split at h;rename_i hs;cases h;exact closed _ (by grind [Bf]) rfl (λl e=>by simp [Ap]at e) hb;cases h;cases h;exact closed _ rfl rfl (λl e=>by simp [Ap]at e) hb;cases h;exact closed _ rfl rfl (λl e=>by simp [Ap]at e) hb;cases h
section
variable {P:Program} {B:World} {pr:Nat->Prop} {E:Ag} {H:AHeap} {w:World}
def nR (hr:Ao B pr E H w) {id sz n m:Nat} {xa sa sd:AV} {l:List AV} {t tx ty e:TypeId} {info:TypeInfo} {z:Value} {dx:TypeDesc} {sv xv:Value} {r:AV}
  (ht:P.underlying t=some (.slice e)) (hi:P.info? e=some info) (hz:info.zero=some z) (htx:P.underlying tx=some dx) (hnot:Jt dx=true) (hzl:Nat.beq (Bp (Cb z)) info.size=true) (hsz:info.size=sz)
  (hs:Ac E sa sv) (hx:Ac E xa xv) (hh:N1 H sz sa=some (id,sd)) (hroom:H.room=true)
  (hm:C6 xa=some m) (hl:Cu H xa m sz=some l) (hone:Ds l=true) (hlok:Bi l=true)
  (hrr:En sz info.bytes (Ap E.sy sd) m (Am E.sy l)=some r) (hrok:okC r=true) (hn:E.sy n=some r):
  ∃E' v w',(Builtin.append_ #[t,tx] ty #[sv,xv]).run P w=.ok v w'/\E.sub E'/\E'.bim=E.bim/\((∀id,E.res id->E.vd id)->∀id,E'.res id->E'.vd id)/\Ao B pr E' ((H.erase id).push (.syl n)) w'/\Ac E' (.slx H.next sz n) v/\(0<m->E.le E'):=by
 subst hsz;obtain ⟨r1,r2,r3⟩:=Ao.room hroom;unfold En at hrr;split at hrr;cases hrr;rename_i hlen;have hlen:(Am E.sy l).length=m*info.size:=AR hlen;rw [IU]at hlen;have hlb:Nat.beq (Bp l) (Nat.mul m info.size)=true:=by grind [BW,zk']
 unfold N1 at hh;split at hh
 ·
  cases hh;simp only [Ap]at hrr;have hsame:∀j k,((H.erase H.next).push (.syl n)).get j=some k->(H.push (.syl n)).get j=some k:=λj k hj=>by
   by_cases e:H.next=j
   .have e1:((H.erase H.next).push (.syl n)).get H.next=some (.syl n):=AHeap.get_push_same (H.erase H.next) r2 _
    grind [AHeap.get_push_same]
   .have e1:((H.erase H.next).push (.syl n)).get j=(H.erase H.next).get j:=AHeap.get_push_ne (H.erase H.next) r2 e _
    grind [AHeap.get_erase_ne,AHeap.get_push_ne]
  cases m with
  |zero=>
   simp only [A2]at hrr;subst hrr;have hev:DI P H t tx .nsl xa=some (.nsl,H):=by simp_all [DI]
   obtain ⟨E',v,w',g1,g2,g3,g4⟩:=Io (ty:=ty) hr hs hx hev;have hvn:=g3.newVoid hroom (n:=n) (by rw [g2.1.2.2.2.1];exact hn);refine ⟨E'.void H.next,v,w',g1,Ag.sub_trans g2.1 (Ag.sub_void _ _),g2.2.2.1,λhat j hj=>?_,hvn.same hsame rfl rfl,?_,λh=>absurd h (zb' 0)⟩;rcases hj with hj|hj;exact .inl (by rw [g2.2.2.2];exact hat j (by rw [←g2.2.1];exact hj));exact .inr hj;exact ⟨.nsl,by show E'.sy n=_;rw [g2.1.2.2.2.1];exact hn,.inl ⟨rfl,g4⟩⟩
  |succ m=>
   simp only at hrr;split at hrr
   .rename_i hb;cases hrr;have hev:DI P H t tx .nsl xa=some (.sl H.next 0 (m+1) info.size none,H.push (.cells l)):=by
     grind [DI,F3]
    obtain ⟨E',v,w',g1,g2,g3,g4⟩:=Io (ty:=ty) hr hs hx hev;obtain ⟨k1,k2⟩:=Jv (H0:=H) g2.1 g3 g4 r2 hlok hn hrok hlen;exact ⟨E',v,w',g1,g2.1,g2.2.2.1,λhat j hj=>by rw [g2.2.2.2];exact hat j (by rw [←g2.2.1];exact hj),k1.same hsame rfl rfl,k2,λ_=>g2⟩
   cases hrr
 ·
  rename_i id' off len sz' cap;split at hh
  case h_2=>cases hh
  rename_i cs hk;split at hh
  case h_2=>cases hh
  rename_i hb0;cases hh;obtain ⟨b1,hb0⟩:=Aq hb0;obtain ⟨b2,hb0⟩:=Aq hb0;obtain ⟨b3,hb0⟩:=Aq hb0;obtain ⟨b4,b5⟩:=Aq hb0;have b1:=za' b1;have b2:=za' b2;have b3:=za' b3;rw [BW]at b3;have hcl:cs.length=len*info.size:=b3;subst b1 b2;simp only [Ap]at hrr;split at hrr;cases hrr;have hc0:Ac E (.sl id 0 len info.size none) sv:=by
   grind [Ac]
  cases m with
  |zero=>
   simp only [A2]at hrr;subst hrr;have hev:DI P H t tx (.sl id 0 len info.size none) xa=some (.sl id 0 len info.size none,H):=by simp_all [DI]
   obtain ⟨E',v,w',g1,g2,g3,g4⟩:=Io (ty:=ty) hr hc0 hx hev;have g4':=g4;obtain ⟨b,o,nn,c,off',q1,q2,q3,q4,q5,q6,_⟩:=g4';obtain ⟨arr,t',f1,f2,f3,f4⟩:=g3.blk hk q1;obtain ⟨p1,p2⟩:=g3.renew hroom hk q1 f1 f3 f4;have hsub:E.sub (E'.bind H.next b o):=Ag.sub_trans g2.1 p1.1;have hcon2:Ac (E'.bind H.next b o) (.sl H.next 0 len info.size none) v:=(by simp_all [Ac,Ag.bind]);obtain ⟨k1,k2⟩:=Jv (H0:=H.erase id) hsub p2 hcon2 r2 b4 hn hrok hcl;exact ⟨_,v,w',g1,hsub,g2.2.2.1,λhat j hj=>by show E'.vd j;rw [g2.2.2.2];exact hat j (by rw [←g2.2.1];exact hj),k1,k2,λh=>absurd h (zb' 0)⟩
  |succ m=>
   simp only at hrr;split at hrr
   .rename_i hb;cases hrr;have hlc:Nat.beq (Nat.add 0 (Nat.mul len info.size)) (Bp cs)=true:=by simp_all
    have hroomX:(H.erase id).room=true:=hroom;have hev:DI P H t tx (.sl id 0 len info.size none) xa=some (.sl (H.erase id).next 0 (Nat.add len (m+1)) info.size none,(H.erase id).push (.cells (cs++l))):=(by unfold DI;simp only [ht,hi,hz,htx,hnot,hzl,Bool.and_self,hm,hl,hlb,Nat.beq_refl,hb,hk,hone,hlc,F3,hroomX,Bj]);obtain ⟨E',v,w',g1,g2,g3,g4⟩:=Io (ty:=ty) hr hc0 hx hev
    obtain ⟨k1,k2⟩:=Jv (H0:=H.erase id) g2.1 g3 g4 r2 (aG b4 hlok) (by rw [Lx];exact hn) (by rw [Lx];exact hrok) (by
     grind)
    exact ⟨E',v,w',g1,g2.1,g2.2.2.1,λhat j hj=>by rw [g2.2.2.2];exact hat j (by rw [←g2.2.1];exact hj),k1,k2,λ_=>g2⟩
   cases hrr
 cases hh
end
variable [Gl]
def Hu (P:Program) (T:Tm) (H:AHeap) (o:Oper):Option (Nat×Nat×XOp×List AV):=match o.op with
 | .call c=>match c.callee with
   | .builtin b=>match b with
     | .append=>match c.args.toList,c.argTypes.toList with
       |[s,x],[t,tx]=>match H.room with
        |true=>match P.underlying t with
         |some (.slice e)=>match P.info? e with
          |some info=>match info.zero with
           |some z=>match P.underlying tx with
            |some dx=>match Jt dx&&Nat.beq (Bp (Cb z)) info.size with
               |true=>match N1 H info.size (look T s)with
                |some (id,sd)=>match KM H info.size (look T x)with
                 |some b=>some (id,info.size,.app info.size info.bytes,[sd,b])
                 |none=>none
                |none=>none
               |false=>none
            |none=>none
           |none=>none
          |none=>none
         |_=>none
        |false=>none
       |_,_=>none
     |_=>none
   |_=>none
 |_=>none
def qm {P:Program} {N k:Nat} {o:Oper} {T:Tm} {H:AHeap} {id sz n:Nat} {op:XOp} {ag:List AV} (ha:Hu P T H o=some (id,sz,op,ag)) {Y:Sy} (hf:AA Y n) {r:AV} (hr:op.run P (Am Y.v ag)=some r) (hok:okC r=true)
  {B:World} {pr:Nat->Prop} {E:Ag} {a:Act} {w:World} (hy:E.At Y) (st:St P B pr N E T H [] a w):
  ∃E' nx v w',(execOp a.eval o).run P w=.ok nx w'/\(nx=.value v\/(nx=.skip/\v=undef))/\E.leF k E'/\E'.At (Y.put n r)/\St P B pr N E' T ((H.erase id).push (.syl n)) [] a w'/\Ac E' (.slx H.next sz n) v:=by
 unfold Hu at ha;split at ha
 case h_2=>cases ha
 rename_i c ho;split at ha
 case h_2=>cases ha
 rename_i b hc;split at ha
 case h_2=>cases ha
 split at ha
 case h_2=>cases ha
 rename_i s x t tx h1 h2;split at ha
 case h_2=>cases ha
 rename_i hroom;split at ha
 case h_2=>cases ha
 rename_i e ht;split at ha
 case h_2=>cases ha
 rename_i info hi;split at ha
 case h_2=>cases ha
 rename_i z hz;split at ha
 case h_2=>cases ha
 rename_i dx htx;split at ha
 case h_2=>cases ha
 rename_i hb;split at ha
 case h_2=>cases ha
 rename_i id' sd hh;split at ha
 case h_2=>cases ha
 rename_i bb harg;cases ha;obtain ⟨hnot,hzl⟩:=Aq hb;have hv:∀i x,E.sy i=some x->(Y.put n r).v i=some x:=λi x hx=>hf.sub_put r i x (by rw [←hy.v];exact hx);have hll:∀i l,E.syl i=some l->(Y.put n r).l i=some l:=λi l hx=>by rw [hy.l]at hx;exact hx
 have hlo:∀i,i<64->(Y.put n r).v i=E.sy i:=λi hi=>by rw [hy.v];exact hf.low r i hi
 have st1:=st.with hv hll hlo;have cs:=st1.t.look s;have cx:=st1.t.look x;simp only [Am,XOp.run]at hr;split at hr
 case h_2=>cases hr
 rename_i m l hm;obtain ⟨xa,l',x1,x2,x3,x4,x5,rfl⟩:=WQ (st.t.look x) harg (n:=m) (l:=l) (by rw [hy.v];exact hm) (UD hr hok);have x1':Ac (E.with (Y.put n r)) xa (a.eval x):=x1.with hv hll;have hl2:Am (E.with (Y.put n r)).sy l'=Am E.sy l':=by obtain ⟨vs,_,hcl,_⟩:=Ia (P:=P) st.r x1 x2 (zc' _) x3;exact Lr hv hcl
 have hsd:Ap (E.with (Y.put n r)).sy sd=Ap Y.v sd:=by
  have hcs:=st.t.look s;rw [←hy.v];unfold N1 at hh;split at hh;cases hh;rfl
  .rename_i id2 off len sz2 cap hlook;split at hh
   case h_2=>cases hh
   rename_i cs2 hk;split at hh
   case h_2=>cases hh
   cases hh;rw [hlook]at hcs;obtain ⟨b2,o2,nn,c2,off2,q1,_⟩:=hcs;obtain ⟨arr,t2,f1,f2,f3,f4⟩:=st.r.blk hk q1;simp only [Ap]
   congr 1
   apply List.ext_getElem?;intro j;rw [Lk,Lk];cases hj:cs2[j]? with
   |none=>rfl
   |some y=>obtain ⟨vv,_,q⟩:=f4 j y hj;simp only [Option.map_some,A2];exact UH hv q
  cases hh
 obtain ⟨E',v,w',g1,g2,g3,g4,g5,g6,_⟩:=nR (ty:=o.type) st1.r (n:=n) ht hi hz htx hnot hzl rfl cs x1' hh hroom x2 x3 x4 x5 (by grind) hok (Sy.put_same _ _ _);obtain ⟨callee,cargs,ctypes⟩:=c;have h1:=DE h1;have h2:=DE h2;subst hc h1 h2
 refine ⟨E',.value v,v,w',?_,.inl rfl,(Ag.with_leF k hlo).trans ⟨λi x _ hx=>g2.1 i x hx,g2.2.1,g2.2.2.1,g3,λi _=>by rw [g2.2.2.2.1]⟩,⟨g2.2.2.2.1,g2.2.2.2.2,g4 hy.res⟩,
  ⟨⟨st1.t.size,st1.t.le,λt ht=>(st1.t.con t ht).sub g2,st1.t.gl.sub g2⟩,g5,st1.d.sub g2⟩,g6⟩
 unfold execOp
 grind [resolve,Sem.run_bind,Sem.run_pure,Result.andThen_ok,invoke,builtin]
def wu {P:Program} {N:Nat} {o:Oper} {T:Tm} {H:AHeap} {id sz n:Nat} {op:XOp} {ag:List AV} (ha:Hu P T H o=some (id,sz,op,ag)) {r:AV} (hok:okC r=true)
  {B:World} {pr:Nat->Prop} {E:Ag} {a:Act} {w:World} (hpos:LR ag=true\/∃i,HQ ag=some i/\IP E.sy i) (hr:op.run P (Am E.sy ag)=some r) (hn:E.sy n=some r) (hT:Bc E N T a.tmps) (hrel:Ao B pr E H w):
  ∃E' v w',(execOp a.eval o).run P w=.ok (.value v) w'/\E.le E'/\Ao B pr E' ((H.erase id).push (.syl n)) w'/\Ac E' (.slx H.next sz n) v:=by
 unfold Hu at ha;split at ha
 case h_2=>cases ha
 rename_i c ho;split at ha
 case h_2=>cases ha
 rename_i b hc;split at ha
 case h_2=>cases ha
 split at ha
 case h_2=>cases ha
 rename_i s x t tx h1 h2;split at ha
 case h_2=>cases ha
 rename_i hroom;split at ha
 case h_2=>cases ha
 rename_i e ht;split at ha
 case h_2=>cases ha
 rename_i info hi;split at ha
 case h_2=>cases ha
 rename_i z hz;split at ha
 case h_2=>cases ha
 rename_i dx htx;split at ha
 case h_2=>cases ha
 rename_i hb;split at ha
 case h_2=>cases ha
 rename_i id' sd hh;split at ha
 case h_2=>cases ha
 rename_i bb harg;cases ha;obtain ⟨hnot,hzl⟩:=Aq hb;have cs:=hT.look s;simp only [Am,XOp.run]at hr;split at hr
 case h_2=>cases hr
 rename_i m l hm;obtain ⟨xa,l',x1,x2,x3,x4,x5,rfl⟩:=WQ (hT.look x) harg (n:=m) (l:=l) hm (UD hr hok);obtain ⟨E',v,w',g1,g2,g3,g4,g5,g6,g7⟩:=nR (ty:=o.type) hrel (n:=n) ht hi hz htx hnot hzl rfl cs x1 hh hroom x2 x3 x4 x5 hr hok hn;have hm0:0<m:=by
  rcases hpos with hpos|⟨i,hi,nn,zz,cc,hcc⟩
  rotate_left
  .cases bb with
   |sym k=>
    cases hi;simp only [Ap,hcc,Option.getD_some,DC,C6]at hm
    grind
   |_=>cases hi
  cases bb with
  |vsl n0 z0 c0=>
   have hp:0<n0:=by have:Nat.blt 0 n0=true:=hpos;simp_all
   grind [Ap,DC,C6]
  |agg l0=>
   have hp:0<l0.length:=by
    have:Nat.blt 0 (Bp l0)=true:=hpos
    grind [BW,ze']
   have hm1:=(Prod.mk.inj (Option.some.inj hm)).1;rw [←hm1];obtain ⟨h0,len,hl⟩:=gA harg;rw [BW,IU,hl];show 0<len*info.size/info.size;simp_all
  |_=>cases hpos
 obtain ⟨callee,cargs,ctypes⟩:=c;have h1:=DE h1;have h2:=DE h2;subst hc h1 h2;refine ⟨E',v,w',?_,g7 hm0,g5,g6⟩;unfold execOp
 grind [resolve,Sem.run_bind,Sem.run_pure,Result.andThen_ok,invoke,builtin]
def KY (R:Tm) (o:Oper):AV:=match o.op with
 | .call c=>match c.args.toList with
   |[s,_]=>match look R s with
    | .sl id _ len z _=>.sl id 0 len z none
    | .nsl=>.nsl
    |_=>.opq
   |_=>.opq
 |_=>.opq
def Oj (s:Nat->Option AV) (i:Nat):Prop:=s i=some .nsl\/∃z cs,s i=some (.vsl 0 z cs)
def zj {P:Program} {N:Nat} {o:Oper} {T:Tm} {H:AHeap} {id sz i:Nat} {op:XOp} {ag:List AV} (ha:Hu P T H o=some (id,sz,op,ag)) (hs:HQ ag=some i)
  {B:World} {pr:Nat->Prop} {E:Ag} {a:Act} {w:World} (he:Oj E.sy i) (hT:Bc E N T a.tmps) (hrel:Ao B pr E H w):
  ∃E' v w',(execOp a.eval o).run P w=.ok (.value v) w'/\E.le E'/\Ao B pr E' H w'/\Ac E' (KY T o) v:=by
 unfold Hu at ha;split at ha
 case h_2=>cases ha
 rename_i c ho;split at ha
 case h_2=>cases ha
 rename_i b hc;split at ha
 case h_2=>cases ha
 split at ha
 case h_2=>cases ha
 rename_i s x t tx h1 h2;split at ha
 case h_2=>cases ha
 rename_i hroom;split at ha
 case h_2=>cases ha
 rename_i e ht;split at ha
 case h_2=>cases ha
 rename_i info hi;split at ha
 case h_2=>cases ha
 rename_i z hz;split at ha
 case h_2=>cases ha
 rename_i dx htx;split at ha
 case h_2=>cases ha
 rename_i hb;split at ha
 case h_2=>cases ha
 rename_i id' sd hh;split at ha
 case h_2=>cases ha
 rename_i bb harg;cases ha;obtain ⟨hnot,hzl⟩:=Aq hb;have hbb:bb=.sym i:=by cases bb<;>first|(cases hs;done)|(cases hs;rfl)
 subst hbb;have cs:=hT.look s;obtain ⟨xa,l',x1,x2,x3,x4,x5,hl'⟩:=WQ (hT.look x) harg (n:=0) (l:=[]) (by
  rcases he with he|⟨z,cs,he⟩;simp only [Ap,he,Option.getD_some];rfl
  .have h0:Nat.mul 0 info.size=0:=Nat.zero_mul _;simp only [Ap,he,Option.getD_some,DC,C6,Cu,h0];rfl) rfl
 have hl0:l'=[]:=by
  grind [IU]
 subst hl0;have hlb:Nat.beq (Bp ([]:List AV)) (Nat.mul 0 info.size)=true:=by simp [BW]
 have hq:∃E' v w',(Builtin.append_ #[t,tx] o.type #[a.eval s,a.eval x]).run P w=.ok v w'/\E.le E'/\Ao B pr E' H w'/\Ac E' (KY T o) v:=by
  unfold KY;rw [ho];simp only [h1];unfold N1 at hh;split at hh
  .rename_i hlk;rw [hlk]at cs⊢;have hev:DI P H t tx .nsl xa=some (.nsl,H):=by
    unfold DI
    grind
   exact Io (ty:=o.type) hrel cs x1 hev
  .rename_i id2 off len sz2 cap hlk;split at hh
   case h_2=>cases hh
   split at hh
   case h_2=>cases hh
   rename_i hb0;obtain ⟨b1,hb0⟩:=Aq hb0;obtain ⟨b2,hb0⟩:=Aq hb0;have b1:=za' b1;have b2:=za' b2;subst b1 b2;rw [hlk]at cs⊢;have hc0:Ac E (.sl id2 0 len info.size none) (a.eval s):=by
    grind [Ac]
   have hev:DI P H t tx (.sl id2 0 len info.size none) xa=some (.sl id2 0 len info.size none,H):=(by unfold DI;simp only [ht,hi,hz,htx,hnot,hzl,Bool.and_self,x2,x3,hlb,Nat.beq_refl]);exact Io (ty:=o.type) hrel hc0 x1 hev
  cases hh
 obtain ⟨E',v,w',g1,g2,g3,g4⟩:=hq;obtain ⟨callee,cargs,ctypes⟩:=c;have h1:=DE h1;have h2:=DE h2;subst hc h1 h2;refine ⟨E',v,w',?_,g2,g3,g4⟩;unfold execOp
 grind [resolve,Sem.run_bind,Sem.run_pure,Result.andThen_ok,invoke,builtin]
def ax (P:Program) (T:Tm) (o:Oper):Option (XOp×List AV):=match o.op with
 | .call c=>match c.callee with
   | .value f=>match f with
     | .func id=>match Je P id with
       |false=>match c.args.toList with
        |[x]=>match Bf (look T x)with
         |true=>some (.ext id,[look T x])
         |false=>none
        |_=>none
       |true=>none
     |_=>none
   |_=>none
 |_=>none
theorem uU {P:Program} {N:Nat} {o:Oper} {T:Tm} {H:AHeap} {op:XOp} {ag:List AV} (ha:ax P T o=some (op,ag)) {Y:Sy} {r:AV} (hr:op.run P (Am Y.v ag)=some r)
  {B:World} {pr:Nat->Prop} {E:Ag} {a:Act} {w:World} {D:Bg} (hy:E.At Y) (st:St P B pr N E T H D a w):
  ∃E' n v w',(execOp a.eval o).run P w=.ok n w'/\(n=.value v\/(n=.skip/\v=undef))/\E.le E'/\St P B pr N E' T H D a w'/\Ac E' r v:=by
 unfold ax at ha;split at ha
 case h_2=>cases ha
 rename_i c ho;split at ha
 case h_2=>cases ha
 rename_i f hf;split at ha
 case h_2=>cases ha
 rename_i id;split at ha
 case h_2=>cases ha
 split at ha
 case h_2=>cases ha
 rename_i x hx;split at ha
 case h_2=>cases ha
 rename_i hs;cases ha;simp only [Am,XOp.run]at hr;split at hr
 case h_2=>cases hr
 rename_i u hu;split at hr
 case h_2=>cases hr
 rename_i v hv;cases hr;have hc:=(C7 hs (st.t.look x)).con;rw [hy.v]at hc;have hu':=Rc hu hc;have hrun:=Kr hv w;refine ⟨E,.value v,v,w,?_,.inl rfl,Ag.le_refl E,st,JR E v⟩;have hx:=DE hx;have ev:a.eval (.func id)=.func (.func id) #[] #[]:=rfl
 grind [execOp,resolve,Deferred.ofValue,invoke]
end
end Go.Sx
