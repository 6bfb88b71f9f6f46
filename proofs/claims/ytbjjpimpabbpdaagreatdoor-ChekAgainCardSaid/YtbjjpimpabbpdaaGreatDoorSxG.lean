/-
  The evaluator's maps, copies, makes, conversions; and one operation.
-/
import Derived.Test.YtbjjpimpabbpdaaGreatDoorSxF
set_option linter.unusedVariables false
set_option linter.unusedSimpArgs false
namespace Go.Sx
section
variable {P:Program} {B:World} {pr:Nat->Prop} {E:Env} {H:AHeap} {w:World}
def kc_ (d:TypeDesc) (x y:AV):Option Bool:=match d with
 | .bool=>match x,y with
   | .bool a,.bool b=>some (a==b)
   |_,_=>none
 | .int _=>match x,y with
   | .int k a,.int k' b=>match decide (k=k')with
     |true=>some (eqI a b)
     |false=>none
   |_,_=>none
 | .string=>match x,y with
   | .str a,.str b=>some (eqB a b)
   |_,_=>none
 |_=>none
def iF_ (d:TypeDesc) (x:AV):Bool:=match d,x with
 | .bool,.bool _=>true
 | .int _,.int _ _=>true
 | .string,.str _=>true
 |_,_=>false
theorem jL_ (a b:List UInt8):((⟨⟨a⟩⟩:ByteArray)==⟨⟨b⟩⟩)=(a==b):=
 (beq_toListBytes ⟨⟨a⟩⟩ ⟨⟨b⟩⟩).trans (by simp [ByteArray.toList_eq])
theorem kd_ {d:TypeDesc} {x y:AV} {u v:Value} (hx:Con E x u) (hy:Con E y v) {b:Bool} (h:kc_ d x y=some b):Instr.sameNow d u v=some b:=by
 unfold kc_ at h;split at h<;>(first|(cases h;done)|skip)
 .split at h<;>(first|(cases h;done)|skip)
  cases h;simp only [Con]at hx hy;subst hx hy;rfl
 .split at h<;>(first|(cases h;done)|skip)
  split at h<;>(first|(cases h;done)|skip)
  rename_i hk;cases h;simp only [Con]at hx hy;subst hx hy;have hk:=of_decide_eq_true hk;subst hk;simp [Instr.sameNow,fy_]
 .split at h<;>(first|(cases h;done)|skip)
  rename_i a b;cases h;simp only [Con]at hx hy;subst hx hy;simp only [Instr.sameNow,dU_,jL_]
theorem nG_ {d:TypeDesc} {x y:AV} {u v:Value} (hx:Con E x u) (hy:Con E y v) (h:kc_ d x y=some true):u=v:=by
 unfold kc_ at h;split at h<;>(first|(cases h;done)|skip)
 .split at h<;>(first|(cases h;done)|skip)
  simp only [Con]at hx hy;subst hx hy;simp at h;rw [h]
 .split at h<;>(first|(cases h;done)|skip)
  split at h<;>(first|(cases h;done)|skip)
  rename_i hk;simp only [Con]at hx hy;subst hx hy;have hk:=of_decide_eq_true hk;subst hk;rw [fy_]at h;simp at h;rw [h]
 .split at h<;>(first|(cases h;done)|skip)
  rename_i a b;simp only [Con]at hx hy;subst hx hy;rw [dU_]at h;simp at h;rw [h]
theorem hu_ {d:TypeDesc} {t:TypeId} (hd:P.underlying t=some d) {x:AV} {u:Value} (hx:Con E x u) (h:iF_ d x=true) (e:Bool) (n:Nat):
  (Instr.checkKey e (n+1) t u).run P w=.ok () w:=by
 cases d<;>cases x<;>simp only [iF_,Bool.false_eq_true]at h<;>(simp only [Con]at hx;subst hx;simp [Instr.checkKey,run_underlying hd])
def ez_ (d:TypeDesc) (k:AV):List (AV×AV×Nat)->Nat->Option (Option (Nat×AV))
 |[],_=>some none
 |(q,v,_)::r,i=>match kc_ d k q with
  |some true=>some (some (i,v))
  |some false=>ez_ d k r (Nat.succ i)
  |none=>none
theorem dG_ {d:TypeDesc} {k:AV} {kv:Value} (hk:Con E k kv):∀{es:List (AV×AV×Nat)} {ms:List MapEntry} (hc:ConE E es ms) {i:Nat} {r:Option (Nat×AV)},ez_ d k es i=some r->
  match r with
  |none=>Instr.findNow d kv ms i=some none
  |some (j,a)=>i<=j/\∃e q n,ms[j-i]? =some e/\Instr.findNow d kv ms i=some (some (j,e.val))/\Con E a e.val/\es[j-i]? =some (q,a,n)/\e.key=kv/\Con E q e.key
 |[],ms,hc,i,r,h=>by simp only [ez_]at h;cases h;simp only [ConE]at hc;subst hc;rfl
 |(q,v,n)::es,ms,hc,i,r,h=>by
  simp only [ConE]at hc;obtain ⟨e,ms',rfl,h1,h2,h3,h4⟩:=hc;simp only [ez_]at h;split at h;rename_i hq;cases h;have hs:=kd_ hk h1 hq;have he:=nG_ hk h1 hq;refine ⟨Nat.le_refl _,e,q,n,by simp,?_,h2,by simp,he.symm,h1⟩;simp [Instr.findNow,hs]
  .rename_i hq;have hs:=kd_ hk h1 hq;have ih:=dG_ hk h4 h;cases r with
   |none=>simp only at ih⊢;simp [Instr.findNow,hs,ih]
   |some p=>obtain ⟨j,a⟩:=p;obtain ⟨g1,e',q',n',g2,g3,g4,g5,g6,g7⟩:=ih;refine ⟨by omega,e',q',n',?_,?_,g4,?_,g6,g7⟩;rw [show j-i=(j-(i+1))+1 by omega];simpa using g2;simp [Instr.findNow,hs,g3];rw [show j-i=(j-(i+1))+1 by omega];simpa using g5
  cases h
def kR_ (P:Program) (kt:TypeId) (k q:AV):Option Bool:=match plain k with
 |some kv=>match plain q with
  |some qv=>aD_ P (Op.equal kt kv qv)
  |none=>none
 |none=>none
def gq_ (k q:AV):Bool:=match plain k with
 |some kv=>match plain q with
  |some qv=>Instr.sameBits 10000 qv kv
  |none=>false
 |none=>false
def isSome {α:Type} (x:Option α):Bool:=match x with
 |some _=>true
 |none=>false
def eU_ (P:Program) (kt:TypeId) (k:AV):Bool:=match plain k with
 |some kv=>isSome (aD_ P (Instr.checkKey true 10000 kt kv))&&isSome (aD_ P (Instr.checkKey false 10000 kt kv))
 |none=>false
def gR_ (d:TypeDesc):Bool:=match d with
 | .struct _=>true
 | .array _ _=>true
 |_=>false
def j2_ (P:Program) (kt:TypeId) (k:AV):List (AV×AV×Nat)->Nat->Option (Option (Nat×AV×AV))
 |[],_=>some none
 |(q,v,_)::r,i=>match kR_ P kt k q with
  |some true=>some (some (i,q,v))
  |some false=>j2_ P kt k r (Nat.succ i)
  |none=>none
theorem hm_ {kt:TypeId} {k q:AV} {kv qv:Value} (hk:Con E k kv) (hq:Con E q qv) {b:Bool} (h:kR_ P kt k q=some b):(Op.equal kt kv qv).run P w=.ok b w:=by unfold kR_ at h;split at h;rename_i kv' h1;split at h;rename_i qv' h2;rw [db_ h1 hk,db_ h2 hq];exact bx_ h w;cases h;cases h
theorem kI_ {k q:AV} {kv qv:Value} (hk:Con E k kv) (hq:Con E q qv) (h:gq_ k q=true):Instr.sameBits 10000 qv kv=true:=by unfold gq_ at h;split at h;rename_i kv' h1;split at h;rename_i qv' h2;rw [db_ h1 hk,db_ h2 hq];exact h;cases h;cases h
theorem iE_ {s:Sem Unit} (h:isSome (aD_ P s)=true):s.run P w=.ok () w:=by unfold isSome at h;split at h;rename_i u hu;exact bx_ hu w;cases h
theorem hh_ {kt:TypeId} {k:AV} {kv:Value} (hk:Con E k kv) (h:eU_ P kt k=true) (b:Bool):(Instr.checkKey b 10000 kt kv).run P w=.ok () w:=by unfold eU_ at h;split at h;rename_i kv' h1;rw [db_ h1 hk];have h2:isSome (aD_ P (Instr.checkKey true 10000 kt kv'))=true/\isSome (aD_ P (Instr.checkKey false 10000 kt kv'))=true:=(by simpa using h);cases b;exact iE_ h2.2;exact iE_ h2.1;cases h
theorem cg_ {kt:TypeId} {d:TypeDesc} (hd:P.underlying kt=some d) (hn:gR_ d=true) (kv:Value) (ms:List MapEntry):(Instr.findKey kt kv ms).run P w=(Instr.findAsking kt kv ms).run P w:=by
 have e:Instr.findNow d kv ms 0=match ms with|[]=>some none|_::_=>none:=by
  cases ms with
  |nil=>rfl
  |cons e ms=>cases d<;>simp only [gR_,Bool.false_eq_true]at hn<;>simp [Instr.findNow,Instr.sameNow]
 simp only [Instr.findKey,Sem.run_bind,run_underlying hd,Result.andThen_ok,e];cases ms<;>rfl
theorem dH_ {kt:TypeId} {k:AV} {kv:Value} (hk:Con E k kv):∀{es:List (AV×AV×Nat)} {ms:List MapEntry} (hc:ConE E es ms) {i:Nat} {r:Option (Nat×AV×AV)},j2_ P kt k es i=some r->
  match r with
  |none=>(Instr.findAsking kt kv ms i).run P w=.ok none w
  |some (j,q,a)=>i<=j/\∃e n,ms[j-i]? =some e/\(Instr.findAsking kt kv ms i).run P w=.ok (some (j,e.val)) w/\Con E a e.val/\es[j-i]? =some (q,a,n)/\Con E q e.key
 |[],ms,hc,i,r,h=>by simp only [j2_]at h;cases h;simp only [ConE]at hc;subst hc;rfl
 |(q,v,n)::es,ms,hc,i,r,h=>by
  simp only [ConE]at hc;obtain ⟨e,ms',rfl,h1,h2,h3,h4⟩:=hc;simp only [j2_]at h;split at h;rename_i hq;cases h;have hs:=hm_ (w:=w) hk h1 hq;refine ⟨Nat.le_refl _,e,n,by simp,?_,h2,by simp,h1⟩;simp [Instr.findAsking,Sem.run_bind,hs]
  .rename_i hq;have hs:=hm_ (w:=w) hk h1 hq;have ih:=dH_ hk h4 h;cases r with
   |none=>simp only at ih⊢;simp [Instr.findAsking,Sem.run_bind,hs,ih]
   |some p=>obtain ⟨j,q',a⟩:=p;obtain ⟨g1,e',n',g2,g3,g4,g5,g6⟩:=ih;refine ⟨by omega,e',n',?_,?_,g4,?_,g6⟩;rw [show j-i=(j-(i+1))+1 by omega];simpa using g2;simp [Instr.findAsking,Sem.run_bind,hs,g3];rw [show j-i=(j-(i+1))+1 by omega];simpa using g5
  cases h
def e5_ (P:Program) (H:AHeap) (t:TypeId):Option (AV×AHeap):=match H.room with
 |true=>some (.map H.next,H.push (.map [] 0))
 |false=>none
theorem ju_ (hr:Rel B pr E H w) {t:TypeId} {r:AV×AHeap} (h:e5_ P H t=some r):Gives P B pr E w (Instr.makeMap t none) r:=by unfold e5_ at h;split at h;rename_i hroom;cases h;obtain ⟨h1,h2⟩:=hr.new_map hroom;refine ⟨_,.map (some w.heap.size),w.alloc (.map #[] 0),by simp [Instr.makeMap],h1,h2,?_⟩;simp only [Con];exact ⟨w.heap.size,by simp [Env.bind],rfl⟩;cases h
def iS_ (ok:Bool) (a:AV) (b:Bool):AV:=match ok with
 |true=>.tup [a,.bool b]
 |false=>a
theorem cZ_ {a:AV} {v:Value} (h:Con E a v) (ok b:Bool):Con E (iS_ ok a b) (if ok then .tuple #[v,.bool b]else v):=by cases ok;exact h;show Con E (.tup [a,.bool b]) _;simp only [Con];exact ⟨[v,.bool b],rfl,ConL.cons h (ConL.cons (by simp [Con]) (ConL.nil E))⟩
def e4_ (P:Program) (H:AHeap) (kt et:TypeId) (d:TypeDesc) (m k:AV) (ok:Bool):Option AV:=match gR_ d&&eU_ P kt k with
 |false=>none
 |true=>match P.info? et with
  |none=>none
  |some i=>match i.zero with
   |none=>none
   |some z=>match m with
    | .map id=>match H.get id with
      |some (.map es _)=>match j2_ P kt k es 0 with
        |some (some (_,_,a))=>some (iS_ ok a true)
        |some none=>some (iS_ ok (ofV z) false)
        |none=>none
      |_=>none
    |_=>none
theorem jt_ (hr:Rel B pr E H w) {t kt et:TypeId} {d:TypeDesc} (hd:P.underlying t=some (.map kt et)) (hkd:P.underlying kt=some d) {m k:AV} {mv kv:Value} (hm:Con E m mv) (hk:Con E k kv) {ok:Bool} {r:AV}
  (h:e4_ P H kt et d m k ok=some r):Gives P B pr E w (Instr.lookup t mv kv ok) (r,H):=by
 unfold e4_ at h;split at h;cases h;rename_i hb;obtain ⟨hn,hck0⟩:gR_ d=true/\eU_ P kt k=true:=by simpa using hb
 split at h;cases h;rename_i i hi;split at h;cases h;rename_i z hz;have hck:∀b,(Instr.checkKey b 10000 kt kv).run P w=.ok () w:=λb=>hh_ hk hck0 b;have hzv:(zeroValue et).run P w=.ok z w:=by simp [zeroValue,typeInfo,hi,hz]
 split at h;rename_i id;simp only [Con]at hm;obtain ⟨b,hφ,rfl⟩:=hm;split at h;rename_i es clock ca_;obtain ⟨_,es',hg,hce⟩:=hr.blk ca_ hφ;have hgo:(getObj b).run P w=.ok (.map es' clock) w:=(by simp [getObj,Sem.run,hg]);split at h;rename_i j q a hf;cases h;have:=dH_ (w:=w) hk hce hf;obtain ⟨_,e,n,_,hfn,hca,_⟩:=this;refine Gives.still hr ?_ (cZ_ hca ok true);simp [Instr.lookup,run_underlying hd,hgo,hck,cg_ hkd hn,hfn];rename_i hf;cases h;have:=dH_ (w:=w) hk hce hf;simp only at this;refine Gives.still hr ?_ (cZ_ (cN_ E z) ok false);simp [Instr.lookup,run_underlying hd,hgo,hck,cg_ hkd hn,this,hzv];cases h;cases h;cases h
def cx_ (P:Program) (H:AHeap) (t:TypeId) (m k:AV) (ok:Bool):Option AV:=match P.underlying t with
 |some (.map kt et)=>match P.underlying kt with
  |some d=>match iF_ d k with
   |false=>e4_ P H kt et d m k ok
   |true=>match P.info? et with
    |none=>none
    |some i=>match i.zero with
     |none=>none
     |some z=>match m with
      | .nmap=>some (iS_ ok (ofV z) false)
      | .map id=>match H.get id with
        |some (.map es _)=>match ez_ d k es 0 with
          |some (some (_,a))=>some (iS_ ok a true)
          |some none=>some (iS_ ok (ofV z) false)
          |none=>none
        |_=>none
      |_=>none
  |none=>none
 |_=>none
theorem f2_ (hr:Rel B pr E H w) {t:TypeId} {m k:AV} {mv kv:Value} (hm:Con E m mv) (hk:Con E k kv) {ok:Bool} {r:AV} (h:cx_ P H t m k ok=some r):
  Gives P B pr E w (Instr.lookup t mv kv ok) (r,H):=by
 unfold cx_ at h;split at h
 case h_2=>cases h
 rename_i kt et hd;split at h
 case h_2=>cases h
 rename_i d hkd;split at h;exact jt_ hr hd hkd hm hk h;rename_i hko;split at h;cases h;rename_i i hi;split at h;cases h;rename_i z hz;have hck:∀b,(Instr.checkKey b 10000 kt kv).run P w=.ok () w:=λb=>hu_ hkd hk hko b 9999;have hzv:(zeroValue et).run P w=.ok z w:=by simp [zeroValue,typeInfo,hi,hz]
 cases m<;>simp only [reduceCtorEq]at h
 case nmap=>
  cases h;simp only [Con]at hm;subst hm;refine Gives.still hr ?_ (cZ_ (cN_ E z) ok false);simp [Instr.lookup,run_underlying hd,hck,Instr.findKey,run_underlying hkd,Instr.findNow,hzv]
 case map id=>
  simp only [Con]at hm;obtain ⟨b,hφ,rfl⟩:=hm;split at h;rename_i es clock ca_;obtain ⟨_,es',hg,hce⟩:=hr.blk ca_ hφ;have hgo:(getObj b).run P w=.ok (.map es' clock) w:=(by simp [getObj,Sem.run,hg]);split at h;rename_i j a hf;cases h;have:=dG_ hk hce hf;obtain ⟨_,e,q,n,_,hfn,hca,_⟩:=this;refine Gives.still hr ?_ (cZ_ hca ok true);simp [Instr.lookup,run_underlying hd,hgo,hck,Instr.findKey,run_underlying hkd,hfn];rename_i hf;cases h;have:=dG_ hk hce hf;simp only at this;refine Gives.still hr ?_ (cZ_ (cN_ E z) ok false);simp [Instr.lookup,run_underlying hd,hgo,hck,Instr.findKey,run_underlying hkd,this,hzv];cases h;cases h
def nR_:List (AV×AV×Nat)->Nat->AV->List (AV×AV×Nat)
 |[],_,_=>[]
 |(k,_,n)::r,0,v=>(k,v,n)::r
 |e::r,i+1,v=>e::nR_ r i v
def gg_:List (AV×AV×Nat)->(AV×AV×Nat)->List (AV×AV×Nat)
 |[],e=>[e]
 |a::r,e=>a::gg_ r e
theorem g3_ {q v:AV} {n:Nat} {e:MapEntry} (h1:Con E q e.key) (h2:Con E v e.val) (h3:e.born=n):∀{es:List (AV×AV×Nat)} {ms:List MapEntry},ConE E es ms->ConE E (gg_ es (q,v,n)) (ms++[e])
 |[],ms,h=>by simp only [ConE]at h;subst h;simp only [gg_,ConE];exact ⟨e,[],rfl,h1,h2,h3,rfl⟩
 |(k,u,m)::r,ms,h=>by simp only [ConE]at h;obtain ⟨e',ms',rfl,g1,g2,g3,g4⟩:=h;simp only [gg_,ConE];exact ⟨e',ms'++[e],rfl,g1,g2,g3,g3_ h1 h2 h3 g4⟩
theorem my_ {v:AV} {vv kv:Value} (hv:Con E v vv):∀{es:List (AV×AV×Nat)} {ms:List MapEntry} {i:Nat} {q a:AV} {n:Nat},ConE E es ms->es[i]? =some (q,a,n)->Con E q kv->
  ConE E (nR_ es i v) (ms.modify i λe=>{ e with key:=kv,val:=vv })
 |[],ms,i,q,a,n,h,hi,_=>by simp at hi
 |(k,u,m)::r,ms,0,q,a,n,h,hi,hq=>by simp only [ConE]at h;obtain ⟨e',ms',rfl,g1,g2,g3,g4⟩:=h;simp at hi;obtain ⟨rfl,rfl,rfl⟩:=hi;simp only [nR_,ConE];exact ⟨{ e' with key:=kv,val:=vv },ms',by simp,hq,hv,g3,g4⟩
 |(k,u,m)::r,ms,i+1,q,a,n,h,hi,hq=>by simp only [ConE]at h;obtain ⟨e',ms',rfl,g1,g2,g3,g4⟩:=h;simp only [nR_,ConE];exact ⟨e',_,by simp,g1,g2,g3,my_ hv g4 (by simpa using hi) hq⟩
def pT_:List (AV×AV×Nat)->Nat->AV->AV->List (AV×AV×Nat)
 |[],_,_,_=>[]
 |(_,_,n)::r,0,k,v=>(k,v,n)::r
 |e::r,i+1,k,v=>e::pT_ r i k v
theorem mz_ {k v:AV} {kv vv:Value} (hk:Con E k kv) (hv:Con E v vv):∀{es:List (AV×AV×Nat)} {ms:List MapEntry} {i:Nat},ConE E es ms->ConE E (pT_ es i k v) (ms.modify i λe=>{ e with key:=kv,val:=vv })
 |[],ms,i,hc=>by simp only [ConE]at hc;subst hc;simp [pT_,ConE]
 |(q,a,n)::es,ms,0,hc=>by simp only [ConE]at hc;obtain ⟨e,ms',rfl,h1,h2,h3,h4⟩:=hc;simp only [pT_,ConE,List.modify_zero_cons];exact ⟨_,_,rfl,hk,hv,h3,h4⟩
 |(q,a,n)::es,ms,i+1,hc=>by simp only [ConE]at hc;obtain ⟨e,ms',rfl,h1,h2,h3,h4⟩:=hc;simp only [pT_,ConE,List.modify_succ_cons];exact ⟨_,_,rfl,h1,h2,h3,mz_ hk hv h4⟩
def dX_ (P:Program) (H:AHeap) (kt:TypeId) (d:TypeDesc) (m k v:AV):Option (AV×AHeap):=match gR_ d&&eU_ P kt k with
 |false=>none
 |true=>match m with
  | .map id=>match H.get id with
    |some (.map es clock)=>match j2_ P kt k es 0 with
     |some (some (i,q,_))=>match gq_ k q with
      |true=>some (.tup [],H.set id (.map (pT_ es i k v) clock))
      |false=>none
     |some none=>some (.tup [],H.set id (.map (gg_ es (k,v,clock)) (Nat.succ clock)))
     |none=>none
    |_=>none
  |_=>none
theorem gz_ (hr:Rel B pr E H w) {t kt et:TypeId} {d:TypeDesc} (hd:P.underlying t=some (.map kt et)) (hkd:P.underlying kt=some d) {m k v:AV} {mv kv vv:Value} (hm:Con E m mv) (hk:Con E k kv) (hv:Con E v vv)
  {r:AV×AHeap} (h:dX_ P H kt d m k v=some r):∃w',(Instr.mapUpdate t mv kv vv).run P w=.ok () w'/\Rel B pr E r.2 w'/\r.1=.tup []:=by
 unfold dX_ at h;split at h;cases h;rename_i hb;obtain ⟨hn,hck0⟩:gR_ d=true/\eU_ P kt k=true:=by simpa using hb
 have hck:(Instr.checkKey false 10000 kt kv).run P w=.ok () w:=hh_ hk hck0 false;split at h
 case h_2=>cases h
 rename_i id;simp only [Con]at hm;obtain ⟨b,hφ,rfl⟩:=hm;split at h
 case h_2=>cases h
 rename_i es clock ca_;obtain ⟨_,es',hg,hce⟩:=hr.blk ca_ hφ;have hgo:(getObj b).run P w=.ok (.map es' clock) w:=by simp [getObj,Sem.run,hg]
 have hso:∀o:Obj,(setObj b o).run P w=.ok () { w with heap:=w.heap.setIfInBounds b o }:=λo=>by simp [setObj,Sem.run,hg]
 split at h;rename_i i q a hf;split at h;rename_i hbits;cases h;have:=dH_ (w:=w) hk hce hf;obtain ⟨_,e,n,hmi,hfn,hca,hqi,hq⟩:=this;simp only [Nat.sub_zero]at hmi hqi;have hes:es'[i]? =some e:=(by simpa using hmi);refine ⟨{ w with heap:=w.heap.setIfInBounds b (.map (es'.modify i λe=>{ e with key:=kv,val:=vv }) clock) },?_,?_,rfl⟩;have hsb:=kI_ hk hq hbits;simp [Instr.mapUpdate,run_underlying hd,hgo,hck,cg_ hkd hn,hfn,hes,Instr.keyThatStays,hsb,hso];refine hr.set_map ca_ hφ ?_;rw [Array.toList_modify];exact mz_ hk hv hce;cases h;rename_i hf;cases h;have:=dH_ (w:=w) hk hce hf;simp only at this;refine ⟨{ w with heap:=w.heap.setIfInBounds b (.map (es'.push { key:=kv,val:=vv,born:=clock }) (clock+1)) },?_,?_,rfl⟩;simp [Instr.mapUpdate,run_underlying hd,hgo,hck,cg_ hkd hn,this,hso];refine hr.set_map ca_ hφ ?_;rw [Array.toList_push];exact g3_ (e:={ key:=kv,val:=vv,born:=clock }) hk hv rfl hce;cases h
def bu_ (P:Program) (H:AHeap) (t:TypeId) (m k v:AV):Option (AV×AHeap):=match P.underlying t with
 |some (.map kt _)=>match P.underlying kt with
  |some d=>match iF_ d k with
   |false=>dX_ P H kt d m k v
   |true=>match m with
    | .map id=>match H.get id with
      |some (.map es clock)=>match ez_ d k es 0 with
       |some (some (i,_))=>some (.tup [],H.set id (.map (nR_ es i v) clock))
       |some none=>some (.tup [],H.set id (.map (gg_ es (k,v,clock)) (Nat.succ clock)))
       |none=>none
      |_=>none
    |_=>none
  |none=>none
 |_=>none
theorem ls_ {d:TypeDesc} {k:AV} {kv:Value} (hk:Con E k kv) (h:iF_ d k=true):Instr.sameBits 10000 kv kv=true:=by cases d<;>cases k<;>simp only [iF_,Bool.false_eq_true]at h<;>(simp only [Con]at hk;subst hk;simp [Instr.sameBits,jL_])
theorem cE_ (hr:Rel B pr E H w) {t:TypeId} {m k v:AV} {mv kv vv:Value} (hm:Con E m mv) (hk:Con E k kv) (hv:Con E v vv) {r:AV×AHeap} (h:bu_ P H t m k v=some r):
  ∃w',(Instr.mapUpdate t mv kv vv).run P w=.ok () w'/\Rel B pr E r.2 w'/\r.1=.tup []:=by
 unfold bu_ at h;split at h
 case h_2=>cases h
 rename_i kt et hd;split at h
 case h_2=>cases h
 rename_i d hkd;split at h;exact gz_ hr hd hkd hm hk hv h;rename_i hko;have hck:(Instr.checkKey false 10000 kt kv).run P w=.ok () w:=hu_ hkd hk hko false 9999;split at h
 case h_2=>cases h
 rename_i id;simp only [Con]at hm;obtain ⟨b,hφ,rfl⟩:=hm;split at h
 case h_2=>cases h
 rename_i es clock ca_;obtain ⟨_,es',hg,hce⟩:=hr.blk ca_ hφ;have hgo:(getObj b).run P w=.ok (.map es' clock) w:=by simp [getObj,Sem.run,hg]
 have hso:∀o:Obj,(setObj b o).run P w=.ok () { w with heap:=w.heap.setIfInBounds b o }:=λo=>by simp [setObj,Sem.run,hg]
 split at h;rename_i i a hf;cases h;have:=dG_ hk hce hf;obtain ⟨_,e,q,n,hmi,hfn,hca,hqi,hke,hq⟩:=this;simp only [Nat.sub_zero]at hmi hqi;have hes:es'[i]? =some e:=(by simpa using hmi);refine ⟨{ w with heap:=w.heap.setIfInBounds b (.map (es'.modify i λe=>{ e with key:=kv,val:=vv }) clock) },?_,?_,rfl⟩;have hsb:=ls_ hk hko;simp [Instr.mapUpdate,run_underlying hd,hgo,hck,Instr.findKey,run_underlying hkd,hfn,hes,hke,Instr.keyThatStays,hsb,hso];refine hr.set_map ca_ hφ ?_;rw [Array.toList_modify];exact my_ hv hce hqi (hke▸hq);rename_i hf;cases h;have:=dG_ hk hce hf;simp only at this;refine ⟨{ w with heap:=w.heap.setIfInBounds b (.map (es'.push { key:=kv,val:=vv,born:=clock }) (clock+1)) },?_,?_,rfl⟩;simp [Instr.mapUpdate,run_underlying hd,hgo,hck,Instr.findKey,run_underlying hkd,this,hso];refine hr.set_map ca_ hφ ?_;rw [Array.toList_push];exact g3_ (e:={ key:=kv,val:=vv,born:=clock }) hk hv rfl hce;cases h
def nI_:List (AV×AV×Nat)->Nat
 |[]=>0
 |_::r=>Nat.succ (nI_ r)
theorem iI_:∀{es:List (AV×AV×Nat)} {ms:List MapEntry},ConE E es ms->nI_ es=ms.length
 |[],ms,h=>by simp only [ConE]at h;subst h;rfl
 |(k,u,m)::r,ms,h=>by simp only [ConE]at h;obtain ⟨e',ms',rfl,g1,g2,g3,g4⟩:=h;simp [nI_,iI_ g4]
def ce_ (P:Program) (H:AHeap) (t:TypeId) (x:AV):Option AV:=match P.underlying t with
 |some .string=>match x with
  | .str s=>some (mkI .i64 (.ofNat (gO_ s)))
  |_=>none
 |some (.slice _)=>match x with
  | .nsl=>some (.int .i64 (.ofNat 0))
  | .sl _ _ n _ _=>some (.int .i64 (.ofNat n))
  | .vsl n _ _=>some (.int .i64 (.ofNat n))
  |_=>none
 |some (.array n _)=>some (.int .i64 (.ofNat n))
 |some (.map _ _)=>match x with
  | .nmap=>some (.int .i64 (.ofNat 0))
  | .map id=>match H.get id with
    |some (.map es _)=>some (mkI .i64 (.ofNat (nI_ es)))
    |_=>none
  |_=>none
 |_=>none
theorem pD_ (hr:Rel B pr E H w) {t ty:TypeId} {x:AV} {v:Value} (hx:Con E x v) {r:AV} (h:ce_ P H t x=some r):Gives P B pr E w (Builtin.len_ #[t] ty #[v]) (r,H):=by unfold ce_ at h;split at h;rename_i hd;split at h;rename_i s;cases h;simp only [Con]at hx;subst hx;rw [d3_];refine Gives.still hr (v:=.int .i64 (Int.ofNat (gO_ s))) ?_ (by simp [Con]);simp [Builtin.len_,run_underlying hd,goInt,cR_];exact congrArg _ (h2_ s);cases h;rename_i hd;split at h;cases h;simp only [Con]at hx;subst hx;exact Gives.still hr (v:=.int .i64 (Int.ofNat 0)) (by simp [Builtin.len_,run_underlying hd,goInt]) (by simp [Con]);rename_i n sz c;cases h;simp only [Con]at hx;obtain ⟨_,_,_,_,_,_,_,rfl,_⟩:=hx;exact Gives.still hr (v:=.int .i64 (Int.ofNat n)) (by simp [Builtin.len_,run_underlying hd,goInt]) (by simp [Con]);rename_i n sz c;cases h;simp only [Con]at hx;obtain ⟨_,_,_,_,rfl,_⟩:=hx;exact Gives.still hr (v:=.int .i64 (Int.ofNat n)) (by simp [Builtin.len_,run_underlying hd,goInt]) (by simp [Con]);cases h;rename_i n _ hd;cases h;exact Gives.still hr (v:=.int .i64 (Int.ofNat n)) (by cases v<;>simp [Builtin.len_,run_underlying hd,goInt]) (by simp [Con]);rename_i hd;split at h;cases h;simp only [Con]at hx;subst hx;exact Gives.still hr (v:=.int .i64 (Int.ofNat 0)) (by simp [Builtin.len_,run_underlying hd,goInt]) (by simp [Con]);rename_i id;simp only [Con]at hx;obtain ⟨b,hφ,rfl⟩:=hx;split at h;rename_i es clock ca_;cases h;obtain ⟨_,es',hg,hce⟩:=hr.blk ca_ hφ;have hgo:(getObj b).run P w=.ok (.map es' clock) w:=(by simp [getObj,Sem.run,hg]);rw [d3_];refine Gives.still hr (v:=.int .i64 (Int.ofNat (nI_ es))) ?_ (by simp [Con]);simp [Builtin.len_,run_underlying hd,goInt,hgo,iI_ hce];cases h;cases h;cases h
def ty_ (a b:Nat):Nat:=match Nat.ble a b with
 |true=>a
 |false=>b
theorem oR_ (a b:Nat):ty_ a b=min a b:=by unfold ty_;split;rename_i hb;have:=Nat.le_of_ble_eq_true hb;omega;rename_i hb;have:¬a<=b:=λhle=>(by rw [Nat.ble_eq_true_of_le hle]at hb;cases hb);omega
theorem jv_ {x:AV} {v:Value} (hx:Con E x v) {n:Nat} (h:aG_ x=some n) (size:Nat):(Builtin.firstCells size 0 v).run P w=.ok #[] w:=by
 cases x<;>simp only [aG_,reduceCtorEq]at h<;>simp only [Con]at hx
 case nsl=>subst hx;rfl
 case sl=>obtain ⟨b,o,m,c,off',_,_,rfl,_⟩:=hx;simp [Builtin.firstCells,loadCells,loadCellsFrom]
 case vsl=>obtain ⟨b,o,vs,c,rfl,_⟩:=hx;simp [Builtin.firstCells,loadCells,loadCellsFrom]
 case str=>
  subst hx;simp only [Builtin.firstCells,Sem.run_pure]
  congr 1
  apply Array.ext';rw [Array.toList_map,Lib.extract_data];simp
def kW_ (P:Program) (H:AHeap) (t:TypeId) (d s:AV):Option (AV×AHeap):=match P.underlying t with
 |some (.slice e)=>match P.info? e with
  |some i=>match aG_ d with
   |some dn=>match aG_ s with
    |some sn=>match ty_ sn dn with
     |0=>match d with
      | .sl _ _ _ _ _=>some (.int .i64 (.ofNat 0),H)
      | .nsl=>some (.int .i64 (.ofNat 0),H)
      |_=>none
     | .succ n'=>match am_ H s (.succ n') i.size with
       |some l=>match d with
        | .sl id off _ _ _=>match H.get id with
           |some (.cells cs)=>match a7_ l with
            |true=>match cK_ off l cs with
             |some cs'=>some (.int .i64 (.ofNat (.succ n')),H.set id (.cells cs'))
             |none=>none
            |false=>none
           |_=>none
        |_=>none
       |none=>none
    |none=>none
   |none=>none
  |none=>none
 |_=>none
theorem nv_ (hr:Rel B pr E H w) {t tx ty:TypeId} {d s:AV} {dv sv:Value} (hd:Con E d dv) (hs:Con E s sv) {r:AV×AHeap} (h:kW_ P H t d s=some r):
  Gives P B pr E w (Builtin.copy_ #[t,tx] ty #[dv,sv]) r:=by
 unfold kW_ at h;split at h
 case h_2=>cases h
 rename_i e ht;split at h
 case h_2=>cases h
 rename_i i hi;split at h
 case h_2=>cases h
 rename_i dn hdn;split at h
 case h_2=>cases h
 rename_i sn hsn;have hsl:=fI_ hs hsn;split at h
 .rename_i hmin;rw [oR_]at hmin;have hmin:Nat.min sn dn=0:=hmin;have hf:=jv_ (P:=P) (w:=w) hs hsn i.size;cases d<;>simp only [reduceCtorEq]at h
  cases h;simp only [Con]at hd;subst hd;simp only [aG_]at hdn;cases hdn;refine Gives.still hr (v:=goInt (0:Nat)) ?_ (by simp [Con,goInt]);simp [Builtin.copy_,run_underlying ht,ai_ hi,hsl,hmin,hf];cases h;simp only [aG_]at hdn;cases hdn;simp only [Con]at hd;obtain ⟨b,o,m,c,off',hφ,hbs,rfl,hoff,hle,hfit,hcap⟩:=hd;refine Gives.still hr (v:=goInt (0:Nat)) ?_ (by simp [Con,goInt]);simp [Builtin.copy_,run_underlying ht,ai_ hi,hsl,hmin,hf,storeCells]
 .rename_i n' hmin;rw [oR_]at hmin;have hmin':Nat.min sn dn=n'+1:=hmin;have hmin:min sn dn=n'+1:=hmin;split at h
  case h_2=>cases h
  rename_i l hl;obtain ⟨vs,hf,hL,hlen⟩:=aP_ (P:=P) hr hs hsn (by omega) hl;cases d<;>simp only [reduceCtorEq]at h
  rename_i id off dn' sz cap;simp only [aG_]at hdn;cases hdn;simp only [Con]at hd;obtain ⟨b,o,m,c,off',hφ,hbs,rfl,hoff,hle,hfit,hcap⟩:=hd;split at h
  case h_2=>cases h
  rename_i cs hk;split at h
  case h_2=>cases h
  rename_i hone;split at h
  case h_2=>cases h
  rename_i cs' cy_;cases h;obtain rfl:=hoff (by omega);obtain ⟨w',g1,g2⟩:=g6_ (P:=P) hr hk hφ hL hone cy_;refine ⟨E,goInt ((n'+1:Nat):Int),w',?_,Env.le_refl _,g2,by simp [Con,goInt]⟩;simp [Builtin.copy_,run_underlying ht,ai_ hi,hsl,hmin',hf,g1]
def b6_ (P:Program) (H:AHeap) (t:TypeId) (l c:AV):Option (AV×AHeap):=match P.underlying t with
 |some (.slice e)=>match P.info? e with
  |some i=>match i.zero with
   |some z=>match l,c with
    | .int _ (.ofNat ln),.int _ (.ofNat cn)=>match Nat.ble ln cn&&Nat.ble (Nat.mul i.bytes cn) 16777216&&Nat.ble cn 16777216&&Nat.beq (aY_ (aI_ z)) i.size with
      |true=>match H.room with
       |true=>some (.sl H.next 0 ln i.size (some cn),H.push (.cells (aT_ (aI_ z) cn)))
       |false=>none
      |false=>none
    |_,_=>none
   |none=>none
  |none=>none
 |_=>none
theorem eg_ (hr:Rel B pr E H w) {t:TypeId} {l c:AV} {lv cv:Value} (hl:Con E l lv) (hc:Con E c cv) {r:AV×AHeap} (h:b6_ P H t l c=some r):
  Gives P B pr E w (Instr.makeSlice t lv cv) r:=by
 unfold b6_ at h;split at h
 case h_2=>cases h
 rename_i e hd;split at h
 case h_2=>cases h
 rename_i i hi;split at h
 case h_2=>cases h
 rename_i z hz;split at h
 case h_2=>cases h
 rename_i k ln k' cn;split at h
 case h_2=>cases h
 rename_i hb;obtain ⟨hb,b4⟩:=aa_ hb;obtain ⟨hb,b3⟩:=aa_ hb;obtain ⟨b1,b2⟩:=aa_ hb;have b1:=Nat.le_of_ble_eq_true b1;have b2:i.bytes*cn<=16777216:=Nat.le_of_ble_eq_true b2;have b3:=Nat.le_of_ble_eq_true b3;have b4:=Nat.eq_of_beq_eq_true b4;rw [aj_]at b4;split at h
 case h_2=>cases h
 rename_i hroom;cases h;simp only [Con]at hl hc;subst hl hc;have hzs:z.cells.size=i.size:=by have:=(a4_ E z).length;rw [b4]at this;simpa using this
 have hrun:=run_make (P:=P) w t e i z hd hi hz k k' (Int.ofNat ln) (Int.ofNat cn) (by simp) (by simp;omega) (by have:((i.bytes*cn:Nat):Int)<=16777216:=(by omega);rw [Int.natCast_mul]at this;show (i.bytes:Int)*(cn:Int)<=281474976710656;omega) (by show (cn:Int)<=_;omega);have hbase:ConL E (aT_ (aI_ z) cn) (madeCells z.cells (cn*i.size)).toList:=by refine ConL.of_at ?_ λq x u hx hu=>?_;rw [aO_,b4];simp [size_madeCells];have hq:q<cn*i.size:=(by rcases Nat.lt_or_ge q (cn*i.size)with h'|h';exact h';rw [List.getElem?_eq_none (by rw [aO_,b4];exact h')]at hx;cases hx);rw [d9_ _ _ _ (by rw [b4];exact hq),b4]at hx;obtain ⟨u',hu',hcu⟩:=(a4_ E z).at _ _ hx;simp only [madeCells,Array.toList_map,Array.toList_range,List.getElem?_map,List.getElem?_range hq,Option.map_some]at hu;cases hu;rw [hzs];have:z.cells[q%i.size]? =some u':=(by simpa using hu');rw [getElem!_def,this];exact hcu
 have hne:ex_ H (aT_ (aI_ z) cn)=some (.ptr H.next 0,H.push (.cells (aT_ (aI_ z) cn))):=by simp [ex_,hroom]
 obtain ⟨E',g1,g2,g3,g4,g5⟩:=gA_ hr e hbase hne;refine ⟨E',_,_,hrun,g1,g2,?_⟩;simp only [Con];refine ⟨w.heap.size,0,_,cn,0,g5,g3,rfl,λ_=>rfl,b1,?_,λq hq=>by cases hq;rfl⟩;simp [size_madeCells]
def fQ_:List AV->Option (List UInt8)
 |[]=>some []
 | .int .u8 (.ofNat n)::r=>match fQ_ r with
   |some l=>some (UInt8.ofNat n::l)
   |none=>none
 |_=>none
theorem eq_:∀{as:List AV} {vs:List Value} {l:List UInt8},fQ_ as=some l->ConL E as vs->∃ns:List Int,vs=ns.map (Value.int .u8)/\ns.map (λn=>UInt8.ofNat n.toNat)=l
 |[],vs,l,h,hc=>by simp only [fQ_]at h;cases h;simp only [ConL]at hc;subst hc;exact ⟨[],rfl,rfl⟩
 |a::as,vs,l,h,hc=>by simp only [ConL]at hc;obtain ⟨v,r,rfl,h2,h3⟩:=hc;unfold fQ_ at h;split at h;rename_i heq;cases heq;rename_i n r' heq;cases heq;split at h;rename_i l' hl';cases h;obtain ⟨ns,h4,h5⟩:=eq_ hl' h3;simp only [Con]at h2;subst h2;exact ⟨(n:Int)::ns,by simp [h4],by simp [h5]⟩;cases h;cases h
def b4_ (P:Program) (H:AHeap) (src dst:TypeId) (x:AV):Option AV:=match P.underlying src,P.underlying dst with
 |some (.slice e),some .string=>match P.underlying e with
  |some (.int .u8)=>match x with
   | .nsl=>some (.str [])
   | .str _=>none
   |x=>match aG_ x with
    |some n=>match am_ H x n 1 with
     |some l=>match Nat.beq (aY_ l) n with
      |true=>match fQ_ l with
       |some s=>some (.str s)
       |none=>none
      |false=>none
     |none=>none
    |none=>none
  |_=>none
 |_,_=>none
theorem is_ (l:List UInt8):∀(s:ByteArray),l.foldl (λr b=>r.push b) s=⟨⟨s.data.toList++l⟩⟩:=by
 induction l with
 |nil=>intro s;simp
 |cons b l ih=>
  intro s;simp only [List.foldl_cons,ih];have:(s.push b).data.toList=s.data.toList++[b]:=by show (s.data.push b).toList=_;simp
  rw [this];simp
theorem io_ (hr:Rel B pr E H w) {src dst:TypeId} {x:AV} {v:Value} (hx:Con E x v) {r:AV} (h:b4_ P H src dst x=some r):Gives P B pr E w (convert src dst v) (r,H):=by
 unfold b4_ at h;split at h
 case h_2=>cases h
 rename_i e hs hd;split at h
 case h_2=>cases h
 rename_i he;split at h;cases h;simp only [Con]at hx;subst hx;refine Gives.still hr (v:=.string .empty) ?_ (by simp [Con];rfl);simp [convert,run_underlying hs,run_underlying hd,run_underlying he,Conv.bytesToString];cases h
 .rename_i hne hns;split at h
  case h_2=>cases h
  rename_i n hn;split at h
  case h_2=>cases h
  rename_i l hl;split at h
  case h_2=>cases h
  rename_i hln;have hln:=Nat.eq_of_beq_eq_true hln;rw [aj_]at hln;split at h
  case h_2=>cases h
  rename_i s hbs;cases h;obtain ⟨vs,hf,hL,_⟩:=aP_ (P:=P) hr hx hn (Nat.le_refl _) hl;obtain ⟨ns,rfl,hns⟩:=eq_ hbs hL;have key:∀(a:Addr) (m c:Nat),v=.slice (some a) m c->m=n->Gives P B pr E w (convert src dst v) (.str s,H):=by
   intro a m c hv hm;subst hv hm;have hlc:(loadCells a m).run P w=.ok (ns.map (Value.int .u8)).toArray w:=by
    have hf':(loadCells a (m*1)).run P w=.ok (ns.map (Value.int .u8)).toArray w:=hf
    rwa [Nat.mul_one]at hf'
   refine Gives.still hr (v:=.string ⟨⟨s⟩⟩) ?_ (by simp [Con]);rw [run_convert_bytes_string w src dst e (some a) m c hs he hd,run_bytesToString w a m c ns hlc]
   congr 2
   have e1:ns.foldl (λr n=>r.push (UInt8.ofNat n.toNat)) ByteArray.empty=(ns.map (λn=>UInt8.ofNat n.toNat)).foldl (λr b=>r.push b) ByteArray.empty:=(by rw [List.foldl_map]);rw [e1,hns,is_];rfl
  cases x<;>simp only [aG_,reduceCtorEq]at hn
  case nsl=>exact (hne rfl).elim
  case sl=>
   cases hn;simp only [Con]at hx;obtain ⟨b,o,m,c,off',_,_,rfl,_⟩:=hx;exact key _ _ _ rfl rfl
  case vsl=>
   cases hn;simp only [Con]at hx;obtain ⟨b,o,vs,c,rfl,_⟩:=hx;exact key _ _ _ rfl rfl
  case str=>exact (hns _ rfl).elim
end
end Go.Sx
