/-
  Arguments whose cells may be slices: a row of structs that hold rows of plain data.
-/
import Derived.Test.YtmgenobllanmjaaGreatDoorSyE
set_option linter.unusedVariables false
set_option linter.unusedSimpArgs false
namespace Go.Sx
open Go.ChangeShapes Go.WideShapes
inductive Fit2 (P:Program):TypeId->List AV->Prop
 |flat {t:TypeId} {as:List AV} (h:Fit P t as):Fit2 P t as
 |nil {t e:TypeId} (h:P.underlying t=some (.slice e)):Fit2 P t [.nsl]
 |sl {t e:TypeId} (rows:List (List AV)) (h:P.underlying t=some (.slice e)) (hr:∀r,r∈rows->Fit P e r) (hl:rows.length<=maxLen):Fit2 P t [.vsl rows.length (P.cellsOf e) rows.flatten]
 |struct {t:TypeId} {fs:Array Field} (parts:List (List AV)) (h:P.underlying t=some (.struct fs)) (hl:parts.length=fs.size)
   (hp:∀(i:Nat) (f:Field) (p:List AV),fs[i]? =some f->parts[i]? =some p->Fit2 P f.type p):Fit2 P t parts.flatten
def g0_ (P:Program):Nat->TypeId->Bool
 |0,_=>false
 |d+1,t=>eL_ P (d+1) t||match P.underlying t with
  |some (.slice e)=>Nat.beq (P.cellsOf t) 1&&(Nat.blt 0 (P.cellsOf e)&&eL_ P d e)
  |some (.struct fs)=>jo_ P fs.toList 0 (P.cellsOf t)&&fs.toList.all λf=>g0_ P d f.type
  |_=>false
def Rd2 (P:Program) (E:Env) (t:TypeId) (cs:List Value) (as:List AV):Prop:=Fit2 P t as/\okL as=true/\as.length=cs.length/\Con0L E as cs
theorem m8_ {P:Program} {E:Env} {tot:Nat} {cs:List Value} (hcs:cs.length=tot):∀(fs:List Field) (off:Nat),jo_ P fs off tot=true->(∀f:Field,f∈fs->∃as,Rd2 P E f.type ((cs.drop f.offset).take (P.cellsOf f.type)) as/\as.length=P.cellsOf f.type)->
  ∃parts:List (List AV),parts.length=fs.length/\(∀(i:Nat) (f:Field) (p:List AV),fs[i]? =some f->parts[i]? =some p->Fit2 P f.type p)/\okL parts.flatten=true/\parts.flatten.length=cs.length-off/\off<=cs.length/\Con0L E parts.flatten (cs.drop off)
 |[],off,h,_=>by have h:off=tot:=Nat.eq_of_beq_eq_true h;refine ⟨[],rfl,(λi f p h=>by simp at h),rfl,by simp;omega,by omega,?_⟩;rw [h,←hcs,List.drop_length];rfl
 |f::r,off,h,hf=>by
  simp only [jo_,Bool.and_eq_true]at h;obtain ⟨h1,h2⟩:=h;have h1:f.offset=off:=Nat.eq_of_beq_eq_true h1;obtain ⟨as,⟨g1,g2,g3,g4⟩,g5⟩:=hf f (List.mem_cons_self ..);obtain ⟨parts,k1,k2,k3,k4,k5,k6⟩:=m8_ hcs r (off+P.cellsOf f.type) h2 λf hm=>hf f (List.mem_cons_of_mem _ hm);refine ⟨as::parts,by simp [k1],λi f' p h h'=>?_,?_,?_,by omega,?_⟩
  .cases i with
   |zero=>simp only [List.getElem?_cons_zero,Option.some.injEq]at h h';subst h h';exact g1
   |succ i=>exact k2 i f' p (by simpa using h) (by simpa using h')
  exact okL_join g2 k3;simp only [List.flatten_cons,List.length_append];omega;have e:cs.drop off=(cs.drop f.offset).take (P.cellsOf f.type)++cs.drop (off+P.cellsOf f.type):=(by rw [h1,←List.drop_drop,List.take_append_drop]);rw [e];exact bP_ g4 k6
section
variable {H:Type} {enc:TypeId×Value->H} {P:Program} {w:World} {base:Nat} {held:Bool}
theorem rE_ {t e:TypeId} {d fuel:Nat} {cs:List Value} {x:DataW H×List MemPlace} {ps:List MemPlace} (ht:P.underlying t=some (.slice e)) (h0:0<P.cellsOf e) (hf:eL_ P d e=true)
  (hx:DataW.trod enc P w base (λ_=>true) held fuel t cs=some x) (hps:∀p,p∈x.2->p∈ps):∃as,Rd2 P (fI_ (ew_ w ps)) t cs as/\as.length=1/\cs.length=1:=by
 rcases DataW.trod_slice ht hx with ⟨h,_⟩|⟨a,len,cap,elems,rest,n,rfl,hv,rfl,_,hl,hm,hel,hat,hsp,_⟩;subst h;exact ⟨[.nsl],⟨.nil ht,rfl,rfl,_,[],rfl,rfl,rfl⟩,rfl,rfl⟩
 .subst hv;by_cases hlen:len=0;subst hlen;refine ⟨[.vsl 0 (P.cellsOf e) []],⟨.sl [] ht (λr h=>by cases h) (Nat.zero_le _),rfl,rfl,_,[],rfl,?_,rfl⟩,rfl,rfl⟩;exact ⟨0,0,[],cap,.inr ⟨rfl,a,rfl⟩,Nat.zero_le _,rfl,λi v h=>by simp at h⟩
  .have ha:a.spot=none:=(by have h1:=hat 0 (by omega);rw [List.getElem?_eq_getElem (by omega)]at h1;obtain ⟨cs',q1,_⟩:=Option.bind_eq_some_iff.1 h1;obtain ⟨_,q2,q3⟩:=World.cells?_some q1;have q4:=q3 0 h0;rw [List.getElem?_eq_getElem (by omega)]at q4;have:=World.cell?_spot q4;simpa [Addr.add]using this);obtain ⟨rows,vs,k1,k2,k3,k4,k5,k6⟩:=lQ_ (enc:=enc) (base:=base) (spare:=λ_=>true) (held:=held) (w:=w) (P:=P) (ha:=ha) (a:=a) (ps:=ps) (n:=n) hf len 0 (λi hi=>by
    have:=hat i hi;rw [List.getElem?_eq_getElem (by omega)]at this;obtain ⟨cs',h1,h2⟩:=Option.bind_eq_some_iff.1 this
    grind) (λj hj=>by
    refine hps _ ?_;simp only [List.mem_append];left;refine MemPlace.mem_row.2 ⟨j,?_,by simp⟩
    grind)
   refine ⟨[.vsl rows.length (P.cellsOf e) rows.flatten],⟨.sl rows ht k2 (by omega),?_,rfl,_,[],rfl,?_,rfl⟩,rfl,rfl⟩;simp only [okL,okC,k3,Bool.and_self];obtain ⟨ab,ao,as'⟩:=a;subst ha;refine ⟨ab,ao,vs,cap,.inl (by rw [k1]),by omega,k5 _,λj u hu=>?_⟩;have:=k6 j u hu;rw [Nat.zero_mul,Nat.add_zero]at this;exact this
theorem mG_ {ps:List MemPlace}:∀(d fuel:Nat) (t:TypeId) (cs:List Value) (x:DataW H×List MemPlace),g0_ P d t=true->DataW.trod enc P w base (λ_=>true) held fuel t cs=some x->(∀p,p∈x.2->p∈ps)->cs.length=P.cellsOf t/\∃as,Rd2 P (fI_ (ew_ w ps)) t cs as
 |0,fuel,t,cs,x,h,_,_=>by simp [g0_]at h
 |d+1,fuel,t,cs,x,h,hx,hps=>by
  unfold g0_ at h;rw [Bool.or_eq_true]at h;rcases h with h|h;obtain ⟨_,h1,as,h2,h3,h4,h5⟩:=fp_ (d+1) fuel t cs x h hx;exact ⟨h1,as,.flat h2,h3,h4,h5 _⟩;split at h;rename_i e ht;simp only [Bool.and_eq_true]at h;obtain ⟨h1,h2,h3⟩:=h;obtain ⟨as,k1,k2,k3⟩:=rE_ ht (by simpa [Nat.blt_eq]using h2) h3 hx hps;exact ⟨by rw [k3];exact (Nat.eq_of_beq_eq_true h1).symm,as,k1⟩
  .rename_i fs ht;simp only [Bool.and_eq_true,List.all_eq_true]at h;obtain ⟨h1,h2⟩:=h;obtain ⟨xs,n,rfl,rfl,hl,hxl,hel⟩:=DataW.trod_struct ht hx;have hfield:∀f:Field,f∈fs.toList->∃y,y∈xs/\DataW.trod enc P w base (λ_=>true) held n f.type ((cs.drop f.offset).take (P.cellsOf f.type))=some y:=λf hm=>by obtain ⟨i,hi⟩:=List.getElem?_of_mem hm;have hi:fs[i]? =some f:=(by simpa using hi);have hlt:i<fs.size:=(by rcases Nat.lt_or_ge i fs.size with h|h;exact h;rw [Array.getElem?_eq_none h]at hi;cases hi);have:=hel i f hi;rw [List.getElem?_eq_getElem (by omega)]at this;exact ⟨_,List.getElem_mem _,this⟩
   obtain ⟨parts,k1,k2,k3,k4,_,k5⟩:=m8_ (P:=P) (E:=fI_ (ew_ w ps)) hl fs.toList 0 h1 λf hm=>(by obtain ⟨y,hy1,hy⟩:=hfield f hm;obtain ⟨q1,as,q2⟩:=mG_ d n f.type _ y (h2 f hm) hy (λp hp=>hps p (List.mem_flatMap.2 ⟨y,hy1,hp⟩));exact ⟨as,q2,by rw [q2.2.2.1,q1]⟩);refine ⟨hl,parts.flatten,.struct parts ht (by simpa using k1) (λi f p h h'=>k2 i f p (by simpa using h) h'),k3,by omega,?_⟩;simpa using k5
  cases h
theorem nh_ {e:TypeId} {a:Addr} {ha:a.spot=none} {d n:Nat} {ps:List MemPlace} (hf:g0_ P d e=true):∀(len k:Nat),(∀i,i<len->∃cs y,w.cells? base (a.add ((k+i)*P.cellsOf e)) (P.cellsOf e)=some cs/\DataW.trod enc P w base (λ_=>true) held n e cs=some y/\∀p,p∈y.2->p∈ps)->
  (∀j,j<len*P.cellsOf e->MemPlace.cell a.block (a.off+(k*P.cellsOf e+j))∈ps)->
  ∃(rows:List (List AV)) (vs:List Value),rows.length=len/\(∀r,r∈rows->Fit2 P e r)/\okL rows.flatten=true/\vs.length=len*P.cellsOf e/\Con0L (fI_ (ew_ w ps)) rows.flatten vs/\
   ∀j u,vs[j]? =some u->ew_ w ps a.block (a.off+k*P.cellsOf e+j)=some u
 |0,k,_,_=>⟨[],[],rfl,(λr h=>by cases h),rfl,by simp,(rfl:([]:List Value)=[]),λj u h=>(by simp at h)⟩
 |len+1,k,h,hp=>by
  obtain ⟨cs,y,hc,hy,hyp⟩:=h 0 (Nat.succ_pos _);obtain ⟨hl,as,q1,q2,q3,q4⟩:=mG_ d n e cs y hf hy hyp;obtain ⟨rows,vs,k1,k2,k3,k4,k5,k6⟩:=nh_ (ha:=ha) hf len (k+1) (λi hi=>by
   have:=h (i+1) (by omega);rw [show k+(i+1)=k+1+i by omega]at this;exact this) (λj hj=>by
   have:=hp (P.cellsOf e+j) (by grind);rw [show k*P.cellsOf e+(P.cellsOf e+j)=(k+1)*P.cellsOf e+j by grind]at this;exact this)
  refine ⟨as::rows,cs++vs,by simp [k1],λr hr=>?_,?_,?_,?_,λj u hu=>?_⟩
  .grind
  .grind [okL_join]
  .grind
  exact bP_ q4 k5
  .by_cases hj:j<cs.length
   .obtain ⟨_,hl2,hat⟩:=World.cells?_some hc;have hm:=hp j (by grind);unfold ew_;obtain ⟨ab,ao,as'⟩:=a
    grind [Addr.add]
   grind
theorem uz_ {W:World} {t e:TypeId} {d base:Nat} {v:Value} {dd:DataW H} {p ps:List MemPlace} (ht:P.underlying t=some (.slice e)) (hf:g0_ P d e=true) (hok:Value.okWide P W .any base t v)
  (h:DataW.Trod enc P W 0 (λ_=>true) true t v dd p) (hps:∀q,q∈p->q∈ps):
  v=.slice none 0 0\/∃rows:List (List AV),(∀r,r∈rows->Fit2 P e r)/\rows.length<=maxLen/\okL rows.flatten=true/\Con (fI_ (ew_ W ps)) (.vsl rows.length (P.cellsOf e) rows.flatten) v:=by
 obtain ⟨a0,EI_,cap0,rfl⟩:=okWide_slice ht hok;obtain ⟨n,hn⟩:=h;rcases DataW.trod_slice ht hn with ⟨h,_⟩|⟨a,len,cap,elems,rest,n,rfl,hv,hxp,_,hl,hm,hel,hat,hsp,_⟩;have h:[Value.slice a0 EI_ cap0]=[.slice none 0 0]:=h;cases h;exact .inl rfl
 .obtain rfl:p=_:=congrArg Prod.snd hxp;have hv:[Value.slice a0 EI_ cap0]=[Value.slice (some a) len cap]:=hv;cases hv;have ha:a.spot=none:=(by simp only [Value.okWide,ht,Cell.okWide,Cell.ok]at hok;exact hok.2.2.2.1);obtain ⟨rows,vs,k1,k2,k3,k4,k5,k6⟩:=nh_ (enc:=enc) (base:=0) (held:=true) (w:=W) (P:=P) (ha:=ha) (a:=a) (ps:=ps) (n:=n) hf EI_ 0 (λi hi=>by
   have:=hat i hi;rw [List.getElem?_eq_getElem (by omega)]at this;obtain ⟨cs',h1,h2⟩:=Option.bind_eq_some_iff.1 this;refine ⟨cs',elems[i],by rw [Nat.zero_add];exact h1,h2,λp hp=>hps p ?_⟩;simp only [List.mem_append];right;exact List.mem_flatMap.2 ⟨elems[i],List.mem_append_left _ (List.getElem_mem _),hp⟩) (λj hj=>by
   refine hps _ ?_;simp only [List.mem_append];left;refine MemPlace.mem_row.2 ⟨j,?_,by simp⟩
   grind)
  refine .inr ⟨rows,k2,by omega,k3,?_⟩;obtain ⟨ab,ao,as'⟩:=a;subst ha;refine ⟨ab,ao,vs,cap0,.inl (by rw [k1]),by omega,(nq_.okL_con k3 k5),λj u hu=>?_⟩;have:=k6 j u hu;rw [Nat.zero_mul,Nat.add_zero]at this;exact this
end
section
variable {P:Program} {t:TypeId} {r:List AV}
theorem ry_ {e:TypeId} (ht:P.underlying t=some (.slice e)) (h:Fit2 P t r):r=[.nsl]\/∃rows:List (List AV),(∀q,q∈rows->Fit P e q)/\rows.length<=maxLen/\r=[.vsl rows.length (P.cellsOf e) rows.flatten]:=by
 cases h with
 |flat h=>cases h<;>simp_all
 |nil h=>exact .inl rfl
 |sl rows h hr hl=>rw [ht]at h;cases h;exact .inr ⟨rows,hr,hl,rfl⟩
 |struct parts h=>simp_all
theorem qU_ {fs:Array Field} (ht:P.underlying t=some (.struct fs)) (h:Fit2 P t r):∃parts:List (List AV),r=parts.flatten/\parts.length=fs.size/\∀(i:Nat) (f:Field) (p:List AV),fs[i]? =some f->parts[i]? =some p->Fit2 P f.type p:=by
 cases h with
 |flat h=>obtain ⟨parts,h1,h2,h3⟩:=iR_ ht h;exact ⟨parts,h1,h2,λi f p h h'=>.flat (h3 i f p h h')⟩
 |nil h=>simp_all
 |sl rows h hr hl=>simp_all
 |struct parts h hl hp=>rw [ht]at h;cases h;exact ⟨parts,rfl,hl,hp⟩
theorem Fit2.to {d:Nat} (hn:(match P.underlying t with|some (.slice _)=>false|some (.struct _)=>false|_=>true)=true) (h:Fit2 P t r):Fit P t r:=by
 cases h with
 |flat h=>exact h
 |nil h=>rw [h]at hn;cases hn
 |sl rows h=>rw [h]at hn;cases hn
 |struct parts h=>rw [h]at hn;cases hn
end
end Go.Sx
