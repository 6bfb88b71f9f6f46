/-
  Arguments that are read: what a reading of plain data gives, as values; the same reading behind a call that has laid new blocks alone.
-/
import Derived.Test.YtijpblconliffaaGreatDoorSyD
import Derived.ChangeReads
import Derived.ChangeArms
import Derived.ChangeShapes
import Derived.WideShapes
set_option linter.unusedVariables false
set_option linter.unusedSimpArgs false
namespace Go.Sx
open Go.ChangeShapes Go.WideShapes
inductive Fit (P:Program):TypeId->List AV->Prop
 |bool {t:TypeId} (b:Bool) (h:P.underlying t=some .bool):Fit P t [.bool b]
 |int {t:TypeId} {k:IntKind} (n:Int) (h:P.underlying t=some (.int k)) (hw:(Lit.int k n).wf=true):Fit P t [.int k n]
 |flt {t:TypeId} {k:FloatKind} (n:Nat) (h:P.underlying t=some (.float k)) (hw:(Lit.float k n).wf=true):Fit P t [.flt k n]
 |str {t:TypeId} (s:List UInt8) (h:P.underlying t=some .string) (hl:s.length<=maxLen):Fit P t [.str s]
 |struct {t:TypeId} {fs:Array Field} (parts:List (List AV)) (h:P.underlying t=some (.struct fs)) (hl:parts.length=fs.size)
   (hp:∀(i:Nat) (f:Field) (p:List AV),fs[i]? =some f->parts[i]? =some p->Fit P f.type p):Fit P t parts.flatten
 |array {t:TypeId} {n:Nat} {e:TypeId} (parts:List (List AV)) (h:P.underlying t=some (.array n e)) (hl:parts.length=n)
   (hp:∀p,p∈parts->Fit P e p):Fit P t parts.flatten
def o1_ (P:Program):List Field->Nat->Nat->Bool
 |[],off,tot=>Nat.beq off tot
 |f::r,off,tot=>Nat.beq f.offset off&&o1_ P r (off+P.cellsOf f.type) tot
def hp_ (P:Program):Nat->TypeId->Bool
 |0,_=>false
 |d+1,t=>match P.underlying t with
  |some .bool=>Nat.beq (P.cellsOf t) 1
  |some (.int _)=>Nat.beq (P.cellsOf t) 1
  |some (.float _)=>Nat.beq (P.cellsOf t) 1
  |some .string=>Nat.beq (P.cellsOf t) 1
  |some (.struct fs)=>o1_ P fs.toList 0 (P.cellsOf t)&&fs.toList.all λf=>hp_ P d f.type
  |some (.array n e)=>Nat.beq (n*P.cellsOf e) (P.cellsOf t)&&hp_ P d e
  |_=>false
theorem cF_ {E:Env}:∀{a b:List AV} {u v:List Value},Con0L E a u->Con0L E b v->Con0L E (a++b) (u++v)
 |[],b,u,v,h,h'=>by
  grind [Con0L]
 |x::a,b,u,v,h,h'=>by obtain ⟨y,r,rfl,h1,h2⟩:=h;exact ⟨y,r++v,rfl,h1,cF_ h2 h'⟩
theorem okL_join {a b:List AV} (ha:okL a=true) (hb:okL b=true):okL (a++b)=true:=by
 induction a with
 |nil=>exact hb
 |cons x r ih=>simp_all [aY_]
section
variable {H:Type} {enc:TypeId×Value->H} {P:Program} {w:World} {base:Nat} {spare:Nat->Bool} {held:Bool}
theorem n6_ {fuel:Nat} {t:TypeId} {cs:List Value} {x:DataW H×List MemPlace} {k:FloatKind} (ht:P.underlying t=some (.float k)) (h:DataW.trod enc P w base spare held fuel t cs=some x):
  ∃n,cs=[.float k n]/\x=(.lit (.float k n),[])/\(Lit.float k n).wf=true:=by
 cases fuel with
 |zero=>simp [DataW.trod]at h
 |succ n=>
  unfold DataW.trod at h
  grind
theorem n5_ {fuel:Nat} {t e:TypeId} {m:Nat} {cs:List Value} {x:DataW H×List MemPlace} (ht:P.underlying t=some (.array m e)) (h:DataW.trod enc P w base spare held fuel t cs=some x):
  ∃(xs:List (DataW H×List MemPlace)) (n:Nat),fuel=n+1/\x=(.agg (xs.map (·.1)),xs.flatMap (·.2))/\cs.length=P.cellsOf t/\xs.length=m/\
   ∀i,i<m->DataW.trod enc P w base spare held n e ((cs.drop (i*P.cellsOf e)).take (P.cellsOf e))=xs[i]? :=by
 cases fuel with
 |zero=>simp [DataW.trod]at h
 |succ n=>
  unfold DataW.trod at h;split at h<;>simp_all
  obtain ⟨hl,xs,hp,hd⟩:=h;exact ⟨xs,hd.symm,by simpa using mapM_some_length hp,λi hi=>mapM_some_get hp i i (by simp [hi])⟩
def RdF (P:Program) (t:TypeId) (cs:List Value) (as:List AV):Prop:=Fit P t as/\okL as=true/\as.length=cs.length/\∀E:Env,Con0L E as cs
theorem o2_ {tot:Nat} {cs:List Value} (hcs:cs.length=tot):∀(fs:List Field) (off:Nat),o1_ P fs off tot=true->(∀f:Field,f∈fs->∃as,RdF P f.type ((cs.drop f.offset).take (P.cellsOf f.type)) as/\as.length=P.cellsOf f.type)->
  ∃parts:List (List AV),parts.length=fs.length/\(∀(i:Nat) (f:Field) (p:List AV),fs[i]? =some f->parts[i]? =some p->Fit P f.type p)/\okL parts.flatten=true/\parts.flatten.length=cs.length-off/\off<=cs.length/\∀E:Env,Con0L E parts.flatten (cs.drop off)
 |[],off,h,_=>by have h:off=tot:=Nat.eq_of_beq_eq_true h;refine ⟨[],rfl,(λi f p h=>by simp at h),rfl,by simp;omega,by omega,λE=>?_⟩;rw [h,←hcs,List.drop_length];rfl
 |f::r,off,h,hf=>by
  simp only [o1_,Bool.and_eq_true]at h;obtain ⟨h1,h2⟩:=h;have h1:f.offset=off:=Nat.eq_of_beq_eq_true h1;obtain ⟨as,⟨g1,g2,g3,g4⟩,g5⟩:=hf f (List.mem_cons_self ..);obtain ⟨parts,k1,k2,k3,k4,k5,k6⟩:=o2_ hcs r (off+P.cellsOf f.type) h2 λf hm=>hf f (List.mem_cons_of_mem _ hm);refine ⟨as::parts,by simp [k1],λi f' p h h'=>?_,?_,?_,by omega,λE=>?_⟩
  .grind
  all_goals grind [okL_join,List.drop_drop,List.take_append_drop,cF_]
theorem lG_ {sz:Nat} {e:TypeId} {cs:List Value}:∀(n off:Nat),cs.length=off+n*sz->(∀i,i<n->∃as,RdF P e ((cs.drop (off+i*sz)).take sz) as)->
  ∃parts:List (List AV),parts.length=n/\(∀p,p∈parts->Fit P e p)/\okL parts.flatten=true/\parts.flatten.length=cs.length-off/\∀E:Env,Con0L E parts.flatten (cs.drop off)
 |0,off,h,_=>by refine ⟨[],rfl,(λp h=>by cases h),rfl,by simp;omega,λE=>?_⟩;rw [show off=cs.length by omega,List.drop_length];rfl
 |n+1,off,h,hf=>by
  have hm:(n+1)*sz=sz+n*sz:=(by grind);obtain ⟨as,g1,g2,g3,g4⟩:=hf 0 (Nat.succ_pos n);obtain ⟨parts,k1,k2,k3,k4,k5⟩:=lG_ (sz:=sz) (e:=e) (cs:=cs) n (off+sz) (by omega) λi hi=>by
   grind
  refine ⟨as::parts,by simp [k1],λp h=>?_,?_,?_,λE=>?_⟩;all_goals grind [okL_join,List.drop_drop,List.take_append_drop,cF_]
theorem f9_:∀(d fuel:Nat) (t:TypeId) (cs:List Value) (x:DataW H×List MemPlace),hp_ P d t=true->DataW.trod enc P w base spare held fuel t cs=some x->x.2=[]/\cs.length=P.cellsOf t/\∃as,RdF P t cs as
 |0,fuel,t,cs,x,h,_=>by simp [hp_]at h
 |d+1,fuel,t,cs,x,h,hx=>by
  unfold hp_ at h;split at h;rename_i ht;obtain ⟨b,rfl,rfl⟩:=DataW.trod_bool ht hx;exact ⟨rfl,by simp_all,[.bool b],.bool b ht,rfl,rfl,λE=>⟨_,_,rfl,rfl,rfl⟩⟩;rename_i k ht;obtain ⟨n,rfl,rfl,hw⟩:=DataW.trod_int ht hx;exact ⟨rfl,by simp_all,[.int k n],.int n ht hw,rfl,rfl,λE=>⟨_,_,rfl,rfl,rfl⟩⟩;rename_i k ht;obtain ⟨n,rfl,rfl,hw⟩:=n6_ ht hx;exact ⟨rfl,by simp_all,[.flt k n],.flt n ht hw,rfl,rfl,λE=>⟨_,_,rfl,rfl,rfl⟩⟩;rename_i ht;obtain ⟨s,rfl,rfl,hs⟩:=DataW.trod_string ht hx;refine ⟨rfl,by simp_all,[.str s.data.toList],.str _ ht (by simpa using hs),rfl,rfl,λE=>⟨_,_,rfl,?_,rfl⟩⟩;rfl
  .rename_i fs ht;simp only [Bool.and_eq_true,List.all_eq_true]at h;obtain ⟨h1,h2⟩:=h;obtain ⟨xs,n,rfl,rfl,hl,hxl,hel⟩:=DataW.trod_struct ht hx;have hat:∀(i:Nat) (f:Field),fs[i]? =some f->∃y,xs[i]? =some y/\DataW.trod enc P w base spare held n f.type ((cs.drop f.offset).take (P.cellsOf f.type))=some y:=λi f hf=>by
    grind
   have hfield:∀f:Field,f∈fs.toList->∃y,DataW.trod enc P w base spare held n f.type ((cs.drop f.offset).take (P.cellsOf f.type))=some y:=λf hm=>by
    grind [List.getElem?_of_mem]
   obtain ⟨parts,k1,k2,k3,k4,_,k5⟩:=o2_ (P:=P) hl fs.toList 0 h1 λf hm=>by
    obtain ⟨y,hy⟩:=hfield f hm;obtain ⟨_,q1,as,q2⟩:=f9_ d n f.type _ y (h2 f hm) hy
    grind [RdF]
   refine ⟨?_,hl,parts.flatten,.struct parts ht (by omega) (λi f p h h'=>k2 i f p (by simpa using h) h'),k3,by omega,λE=>by grind⟩;rw [List.flatMap_eq_nil_iff];intro y hy;obtain ⟨i,hi⟩:=List.getElem?_of_mem hy;have hlt:i<fs.size:=(by grind);obtain ⟨y',e1,e2⟩:=hat i fs[i] (Array.getElem?_eq_getElem hlt);rw [hi]at e1;cases e1;exact (f9_ d n _ _ _ (h2 _ (by simp)) e2).1
  .rename_i m e ht;simp only [Bool.and_eq_true]at h;obtain ⟨h1,h2⟩:=h;have h1:=Nat.eq_of_beq_eq_true h1;obtain ⟨xs,n,rfl,rfl,hl,hxl,hel⟩:=n5_ ht hx;obtain ⟨parts,k1,k2,k3,k4,k5⟩:=lG_ (P:=P) (e:=e) (sz:=P.cellsOf e) (cs:=cs) m 0 (by omega) λi hi=>by
    have:=hel i hi;rw [List.getElem?_eq_getElem (by omega)]at this;obtain ⟨_,_,as,q⟩:=f9_ d n e _ _ h2 this
    grind
   refine ⟨?_,hl,parts.flatten,.array parts ht k1 k2,k3,by omega,λE=>by grind⟩;rw [List.flatMap_eq_nil_iff];intro y hy;obtain ⟨i,hi⟩:=List.getElem?_of_mem hy;have hlt:i<m:=(by grind);have:=hel i hlt;rw [hi]at this;exact (f9_ d n e _ _ h2 this).1
  cases h
def k5_ (w:World) (ps:List MemPlace) (b o:Nat):Option Value:=if MemPlace.cell b o∈ps then w.cell? ⟨b,o,none⟩else none
theorem st_ (w:World) (ps:List MemPlace):∀b o v,k5_ w ps b o=some v->w.cell? ⟨b,o,none⟩=some v:=by simp [k5_]
theorem o8_ {e:TypeId} {a:Addr} {ha:a.spot=none} {d n:Nat} {ps:List MemPlace} (hf:hp_ P d e=true):∀(len k:Nat),(∀i,i<len->∃cs y,w.cells? base (a.add ((k+i)*P.cellsOf e)) (P.cellsOf e)=some cs/\DataW.trod enc P w base spare held n e cs=some y)->
  (∀j,j<len*P.cellsOf e->MemPlace.cell a.block (a.off+(k*P.cellsOf e+j))∈ps)->
  ∃(rows:List (List AV)) (vs:List Value),rows.length=len/\(∀r,r∈rows->Fit P e r)/\okL rows.flatten=true/\vs.length=len*P.cellsOf e/\(∀E:Env,Con0L E rows.flatten vs)/\
   ∀j u,vs[j]? =some u->k5_ w ps a.block (a.off+k*P.cellsOf e+j)=some u
 |0,k,_,_=>⟨[],[],rfl,(λr h=>by cases h),rfl,by simp,λE=>(rfl:([]:List Value)=[]),λj u h=>(by simp at h)⟩
 |len+1,k,h,hp=>by
  obtain ⟨cs,y,hc,hy⟩:=h 0 (Nat.succ_pos _);obtain ⟨_,hl,as,q1,q2,q3,q4⟩:=f9_ d n e cs y hf hy;obtain ⟨rows,vs,k1,k2,k3,k4,k5,k6⟩:=o8_ (ha:=ha) hf len (k+1) (λi hi=>by
   have:=h (i+1) (by omega);rw [show k+(i+1)=k+1+i by omega]at this;exact this) (λj hj=>by
   have:=hp (P.cellsOf e+j) (by grind);rw [show k*P.cellsOf e+(P.cellsOf e+j)=(k+1)*P.cellsOf e+j by grind]at this;exact this)
  refine ⟨as::rows,cs++vs,by simp [k1],λr hr=>?_,?_,?_,λE=>?_,λj u hu=>?_⟩
  .grind
  .grind [okL_join]
  .grind
  .grind [cF_]
  .by_cases hj:j<cs.length
   .obtain ⟨_,hl2,hat⟩:=World.cells?_some hc;have hm:=hp j (by grind);unfold k5_;obtain ⟨ab,ao,as'⟩:=a
    grind [Addr.add]
   grind
theorem rF_ {t e:TypeId} {d fuel:Nat} {v:Value} {x:DataW H×List MemPlace} {ps:List MemPlace} (ht:P.underlying t=some (.slice e)) (hf:hp_ P d e=true) (hok:∀a l c,v=.slice (some a) l c->a.spot=none)
  (hx:DataW.trod enc P w base (λ_=>true) held fuel t [v]=some x) (hps:∀p,p∈x.2->p∈ps):
  v=.slice none 0 0\/∃rows:List (List AV),(∀r,r∈rows->Fit P e r)/\rows.length<=maxLen/\okL rows.flatten=true/\Con (j1_ (k5_ w ps)) (.vsl rows.length (P.cellsOf e) rows.flatten) v:=by
 rcases DataW.trod_slice ht hx with ⟨h,_⟩|⟨a,len,cap,elems,rest,n,rfl,hv,rfl,_,hl,hm,hel,hat,hsp,_⟩
 .grind
 .cases hv;have ha:=hok a len cap rfl;obtain ⟨rows,vs,k1,k2,k3,k4,k5,k6⟩:=o8_ (enc:=enc) (base:=base) (spare:=λ_=>true) (held:=held) (w:=w) (P:=P) (ha:=ha) (a:=a) (ps:=ps) (n:=n) hf len 0 (λi hi=>by
   have:=hat i hi;rw [List.getElem?_eq_getElem (by omega)]at this;obtain ⟨cs',h1,h2⟩:=Option.bind_eq_some_iff.1 this
   grind) (λj hj=>by
   refine hps _ ?_;simp only [List.mem_append];left;refine MemPlace.mem_row.2 ⟨j,?_,by simp⟩
   grind)
  refine .inr ⟨rows,k2,by omega,k3,?_⟩;obtain ⟨ab,ao,as'⟩:=a;subst ha;refine ⟨ab,ao,vs,cap,by rw [k1],by omega,(okL_con k3 (k5 _)),λj u hu=>?_⟩;have:=k6 j u hu;rw [Nat.zero_mul,Nat.add_zero]at this;exact this
where
 okL_con {E:Env}:∀{as:List AV} {vs:List Value},okL as=true->Con0L E as vs->ConL E as vs
  |[],vs,_,h=>h
  |a::as,vs,h,hc=>by obtain ⟨v,r,rfl,h1,h2⟩:=hc;rw [aY_]at h;exact ⟨v,r,rfl,h1.con,okL_con (aa_ h).2 h2⟩
end
section
variable {P:Program} {t:TypeId} {r:List AV}
theorem to_ {k:IntKind} (ht:P.underlying t=some (.int k)) (h:Fit P t r):∃n,r=[.int k n]/\(Lit.int k n).wf=true:=by cases h<;>grind
end
section
variable {H:Type} {enc:TypeId×Value->H} {P:Program} {W:World}
theorem ur_ {t e:TypeId} {d base:Nat} {v:Value} {dd:DataW H} {p ps:List MemPlace} (ht:P.underlying t=some (.slice e)) (hf:hp_ P d e=true) (hok:Value.okWide P W .any base t v)
  (h:DataW.Trod enc P W 0 (λ_=>true) true t v dd p) (hps:∀q,q∈p->q∈ps):
  v=.slice none 0 0\/∃rows:List (List AV),(∀r,r∈rows->Fit P e r)/\rows.length<=maxLen/\okL rows.flatten=true/\Con (j1_ (k5_ W ps)) (.vsl rows.length (P.cellsOf e) rows.flatten) v:=by
 obtain ⟨a,len,cap,rfl⟩:=okWide_slice ht hok;obtain ⟨n,hn⟩:=h;refine rF_ (x:=(dd,p)) ht hf (λa' l c e=>?_) hn hps;cases e;simp only [Value.okWide,ht,Cell.okWide,Cell.ok]at hok;exact hok.2.2.2.1
end
def em_ (P:Program):Nat->TypeId->Bool
 |0,_=>false
 |d+1,t=>match P.underlying t with
  |some .bool=>true
  |some (.int _)=>true
  |some (.float _)=>true
  |some .string=>true
  |some (.slice e)=>Nat.blt 0 (P.cellsOf e)&&em_ P d e
  |some (.struct fs)=>fs.toList.all λf=>em_ P d f.type
  |some (.array _ e)=>em_ P d e
  |_=>false
section
variable {H:Type} {enc:TypeId×Value->H} {P:Program} {w:World} {base:Nat} {held:Bool} {sp:Nat->Bool}
theorem m3_ {d:Nat} {t:TypeId} (hw:em_ P (d+1) t=true) {r r':TypeId->List Value->Option (DataW H×List MemPlace)}
  (hr:∀t cs x,em_ P d t=true->r t cs=some x->(∀p∈x.2,sp p.block=true)->r' t cs=some x) {cs:List Value} {x:DataW H×List MemPlace}
  (h:DataW.trodStep enc P w base (λ_=>true) held r t cs=some x) (hs:∀p∈x.2,sp p.block=true):DataW.trodStep enc P w base sp held r' t cs=some x:=by
 unfold DataW.trodStep at h⊢;split at h
 case h_8 e a len cap ht=>
  unfold em_ at hw;rw [ht]at hw;simp only [Bool.and_eq_true]at hw;obtain ⟨hz,hwe⟩:=hw;have hz:0<P.cellsOf e:=(by simp_all);split at h
  .rename_i hc;rw [if_pos hc];simp only [Option.map_eq_some_iff,Option.bind_eq_some_iff]at h⊢;obtain ⟨elems,he,rest,hrest,rfl⟩:=h;have one:∀(i:Nat) (y:DataW H×List MemPlace),y∈elems++rest->
     (w.cells? base (a.add (i*P.cellsOf e)) (P.cellsOf e)).bind (r e)=some y->(w.cells? base (a.add (i*P.cellsOf e)) (P.cellsOf e)).bind (r' e)=some y:=by
    grind [Option.bind_eq_some_iff]
   refine ⟨elems,mapM_carry he (λi y hi hy=>one i y (by simp [hy])),rest,?_,rfl⟩;have hrl:rest.length=cap-len:=(by simpa using mapM_some_length hrest);cases hrl0:cap-len with
   |zero=>
    grind
   |succ m=>
    have hsa:sp a.block=true:=by refine hs (.cell a.block (a.off+0)) ?_;simp only [List.mem_append];left;refine MemPlace.mem_row.2 ⟨0,Nat.mul_pos (by omega) hz,rfl⟩
    grind [mapM_carry]
  cases h
 case h_9 fs _ _ ht=>
  unfold em_ at hw;rw [ht]at hw;simp only [List.all_eq_true]at hw;split at h;rename_i hc;rw [if_pos hc];simp only [Option.map_eq_some_iff]at h⊢;obtain ⟨xs,hx,rfl⟩:=h;exact ⟨xs,mapM_carry hx (λf y hf hy hv=>hr _ _ _ (hw f hf) hv (λp hp=>hs p (List.mem_flatMap.2 ⟨y,hy,hp⟩))),rfl⟩;cases h
 case h_10 n e _ _ ht=>
  unfold em_ at hw;rw [ht]at hw;split at h;rename_i hc;rw [if_pos hc];simp only [Option.map_eq_some_iff]at h⊢;obtain ⟨xs,hx,rfl⟩:=h;exact ⟨xs,mapM_carry hx (λf y _ hy hv=>hr _ _ _ hw hv (λp hp=>hs p (List.mem_flatMap.2 ⟨y,hy,hp⟩))),rfl⟩;cases h
 all_goals grind [em_]
theorem s3_:∀(n d:Nat) (t:TypeId) (cs:List Value) (x:DataW H×List MemPlace),em_ P d t=true->
  DataW.trod enc P w base (λ_=>true) held n t cs=some x->(∀p∈x.2,sp p.block=true)->DataW.trod enc P w base sp held n t cs=some x:=by
 intro n
 induction n with
 |zero=>simp [DataW.trod]
 |succ n ih=>intro d t cs x hw h hs;cases d<;>grind [em_,DataW.trod_step,m3_]
theorem lo_ {W W':World} (h:GrownB W W') {p:MemPlace} (hp:p.block<W.heap.size):W.sameAt W' p:=by
 obtain ⟨⟨_,_,hk⟩,_,hs⟩:=h;have hb:=hk p.block hp;cases p with
 |cell b off=>
  simp only [MemPlace.block]at hp hb;show W'.cell? ⟨b,off,none⟩=W.cell? ⟨b,off,none⟩;unfold World.cell?
  grind
 |map b=>
  simp only [MemPlace.block]at hp hb;show W'.heap[b]? =W.heap[b]?;obtain ⟨o1,h1⟩:∃o,W.heap[b]? =some o:=⟨W.heap[b],Array.getElem?_eq_getElem hp⟩;obtain ⟨o2,h2⟩:∃o,W'.heap[b]? =some o:=⟨W'.heap[b]'(by omega),Array.getElem?_eq_getElem (by omega)⟩;rw [h1,h2]at hb;rw [h1,h2];cases o1 with
  |cells c t fr=>
   cases o2 with
   |cells c' t' fr'=>obtain ⟨rfl,rfl,_,hc⟩:=hb;have:c'=c:=Array.ext_getElem? λj=>hc j (λh=>h);rw [this]
   |_=>cases hb
  |map es cl=>
   grind
  |_=>omega
theorem trodAll_again {d:Nat} {W W':World} (hg:GrownB W W'):∀{ts:List TypeId} {vs:List Value} {ds:List (DataW H)} {ps:List MemPlace},(ts.all λt=>em_ P d t)=true->
  DataW.TrodAll enc P W 0 (λ_=>true) held ts vs ds ps->(∀p∈ps,p.block<W.heap.size)->(∀p∈ps,sp p.block=true)->DataW.TrodAll enc P W' 0 sp held ts vs ds ps
 |[],[],[],_,_,h,_,_=>h
 |t::ts,v::vs,dd::ds,_,hw,⟨p,q,⟨n,h1⟩,h2,rfl⟩,hlt,hsp=>by
  simp only [List.all_cons,Bool.and_eq_true]at hw;refine ⟨p,q,⟨n,?_⟩,trodAll_again hg hw.2 h2 (λx hx=>hlt x (by simp [hx])) (λx hx=>hsp x (by simp [hx])),rfl⟩
  grind [DataW.trod_carry,s3_,lo_]
end
variable [Gl]
theorem ty_ {P:Program} {f:FuncId} {args:List AV} {v:AV} (hp:ju_ P f args v) (w:World) (ps:List MemPlace) {vs:List Value} (hc:ConL (j1_ (k5_ w ps)) args vs)
  (hg:GlOk (j1_ (k5_ w ps))):Calls P f ⟨vs⟩ w λe w'=>(∃E u,e=.returned u/\Con E v u)/\GrownB w w':=by
 refine Calls.mono (hp H0 w (λb=>b<w.heap.size) (j1_ (k5_ w ps)) w vs hg (uX_ w _ (st_ w ps)) hc) λe w' he=>?_;obtain ⟨E',_,u,rfl,h1,h2⟩:=he;exact ⟨⟨E',u,rfl,h1⟩,qX_ h2.size (λb hb=>(h2.prot b hb).2) h2.os h2.output⟩
end Go.Sx
