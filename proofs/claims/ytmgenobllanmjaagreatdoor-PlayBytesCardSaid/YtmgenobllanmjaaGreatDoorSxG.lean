/-
  The evaluator's maps, copies, makes, conversions; and one operation.
-/
import Derived.Test.YtmgenobllanmjaaGreatDoorSxF
set_option linter.unusedVariables false
set_option linter.unusedSimpArgs false
namespace Go.Sx
section
variable {P:Program} {B:World} {pr:Nat->Prop} {E:Env} {H:AHeap} {w:World}
def hN_ (d:TypeDesc) (x y:AV):Option Bool:=match d with
 | .bool=>match x,y with
   | .bool a,.bool b=>some (a==b)
   |_,_=>none
 | .int _=>match x,y with
   | .int k a,.int k' b=>match decide (k=k')with
     |true=>some (eqI a b)
     |false=>none
   |_,_=>none
 | .string=>match x,y with
   | .str a,.str b=>some (eqB a b)
   |_,_=>none
 |_=>none
def gx_ (d:TypeDesc) (x:AV):Bool:=match d,x with
 | .bool,.bool _=>true
 | .int _,.int _ _=>true
 | .string,.str _=>true
 |_,_=>false
theorem ko_ (a b:List UInt8):((⟨⟨a⟩⟩:ByteArray)==⟨⟨b⟩⟩)=(a==b):=
 by simp [beq_toListBytes,trans,ByteArray.toList_eq]
theorem kL_ {d:TypeDesc} {x y:AV} {u v:Value} (hx:Con E x u) (hy:Con E y v) {b:Bool} (h:hN_ d x y=some b):Instr.sameNow d u v=some b:=by
 unfold hN_ at h;split at h<;>(first|(cases h;done)|skip)
 .split at h<;>(first|(cases h;done)|skip)
  cases h;subst hx hy;rfl
 .split at h<;>(first|(cases h;done)|skip)
  split at h<;>(first|(cases h;done)|skip)
  simp_all [Con,Instr.sameNow,fU_]
 grind [Con,Instr.sameNow,ea_,ko_]
theorem oc_ {d:TypeDesc} {x y:AV} {u v:Value} (hx:Con E x u) (hy:Con E y v) (h:hN_ d x y=some true):u=v:=by
 unfold hN_ at h;split at h<;>(first|(cases h;done)|skip)
 .grind [Con]
 .split at h<;>(first|(cases h;done)|skip)
  split at h<;>(first|(cases h;done)|skip)
  simp_all [Con,fU_]
 grind [Con,ea_]
theorem hO_ {d:TypeDesc} {t:TypeId} (hd:P.underlying t=some d) {x:AV} {u:Value} (hx:Con E x u) (h:gx_ d x=true) (e:Bool) (n:Nat):
  (Instr.checkKey e (n+1) t u).run P w=.ok () w:=by
 cases d<;>cases x<;>simp only [gx_,Bool.false_eq_true]at h<;>(simp_all [Instr.checkKey,run_underlying])
def dT_ (d:TypeDesc) (k:AV):List (AV×AV×Nat)->Nat->Option (Option (Nat×AV))
 |[],_=>some none
 |(q,v,_)::r,i=>match hN_ d k q with
  |some true=>some (some (i,v))
  |some false=>dT_ d k r (Nat.succ i)
  |none=>none
theorem dU_ {d:TypeDesc} {k:AV} {kv:Value} (hk:Con E k kv):∀{es:List (AV×AV×Nat)} {ms:List MapEntry} (hc:ConE E es ms) {i:Nat} {r:Option (Nat×AV)},dT_ d k es i=some r->
  match r with
  |none=>Instr.findNow d kv ms i=some none
  |some (j,a)=>i<=j/\∃e q n,ms[j-i]? =some e/\Instr.findNow d kv ms i=some (some (j,e.val))/\Con E a e.val/\es[j-i]? =some (q,a,n)/\e.key=kv/\Con E q e.key
 |[],ms,hc,i,r,h=>by cases h;subst hc;rfl
 |(q,v,n)::es,ms,hc,i,r,h=>by
  obtain ⟨e,ms',rfl,h1,h2,h3,h4⟩:=hc;simp only [dT_]at h;split at h;rename_i hq;cases h;have hs:=kL_ hk h1 hq;have he:=oc_ hk h1 hq;simp_all [Instr.findNow]
  .rename_i hq;have hs:=kL_ hk h1 hq;have ih:=dU_ hk h4 h;cases r with
   |none=>
    grind [Instr.findNow]
   |some p=>
    grind [Instr.findNow]
  cases h
def ie_ (P:Program) (kt:TypeId) (k q:AV):Option Bool:=match plain k with
 |some kv=>match plain q with
  |some qv=>aJ_ P (Op.equal kt kv qv)
  |none=>none
 |none=>none
def dM_ (k q:AV):Bool:=match plain k with
 |some kv=>match plain q with
  |some qv=>Instr.sameBits 10000 qv kv
  |none=>false
 |none=>false
def isSome {α:Type} (x:Option α):Bool:=match x with
 |some _=>true
 |none=>false
def d7_ (P:Program) (kt:TypeId) (k:AV):Bool:=match plain k with
 |some kv=>isSome (aJ_ P (Instr.checkKey true 10000 kt kv))&&isSome (aJ_ P (Instr.checkKey false 10000 kt kv))
 |none=>false
def eh_ (d:TypeDesc):Bool:=match d with
 | .struct _=>true
 | .array _ _=>true
 |_=>false
def dV_ (P:Program) (kt:TypeId) (k:AV):List (AV×AV×Nat)->Nat->Option (Option (Nat×AV×AV))
 |[],_=>some none
 |(q,v,_)::r,i=>match ie_ P kt k q with
  |some true=>some (some (i,q,v))
  |some false=>dV_ P kt k r (Nat.succ i)
  |none=>none
theorem hE_ {kt:TypeId} {k q:AV} {kv qv:Value} (hk:Con E k kv) (hq:Con E q qv) {b:Bool} (h:ie_ P kt k q=some b):(Op.equal kt kv qv).run P w=.ok b w:=by
 grind [ie_,eY_,bx_]
theorem lg_ {k q:AV} {kv qv:Value} (hk:Con E k kv) (hq:Con E q qv) (h:dM_ k q=true):Instr.sameBits 10000 qv kv=true:=by
 grind [dM_,eY_]
theorem ob_ {s:Sem Unit} (h:isSome (aJ_ P s)=true):s.run P w=.ok () w:=by
 unfold isSome at h
 grind [bx_]
theorem hz_ {kt:TypeId} {k:AV} {kv:Value} (hk:Con E k kv) (h:d7_ P kt k=true) (b:Bool):(Instr.checkKey b 10000 kt kv).run P w=.ok () w:=by
 unfold d7_ at h;split at h
 .rename_i kv' h1;rw [eY_ h1 hk];cases b<;>grind [ob_]
 cases h
theorem cj_ {kt:TypeId} {d:TypeDesc} (hd:P.underlying kt=some d) (hn:eh_ d=true) (kv:Value) (ms:List MapEntry):(Instr.findKey kt kv ms).run P w=(Instr.findAsking kt kv ms).run P w:=by
 have e:Instr.findNow d kv ms 0=match ms with|[]=>some none|_::_=>none:=by
  cases ms with
  |nil=>rfl
  |cons e ms=>cases d<;>simp only [eh_,Bool.false_eq_true]at hn<;>simp [Instr.findNow,Instr.sameNow]
 simp only [Instr.findKey,Sem.run_bind,run_underlying hd,Result.andThen_ok,e];cases ms<;>rfl
theorem dW_ {kt:TypeId} {k:AV} {kv:Value} (hk:Con E k kv):∀{es:List (AV×AV×Nat)} {ms:List MapEntry} (hc:ConE E es ms) {i:Nat} {r:Option (Nat×AV×AV)},dV_ P kt k es i=some r->
  match r with
  |none=>(Instr.findAsking kt kv ms i).run P w=.ok none w
  |some (j,q,a)=>i<=j/\∃e n,ms[j-i]? =some e/\(Instr.findAsking kt kv ms i).run P w=.ok (some (j,e.val)) w/\Con E a e.val/\es[j-i]? =some (q,a,n)/\Con E q e.key
 |[],ms,hc,i,r,h=>by cases h;subst hc;rfl
 |(q,v,n)::es,ms,hc,i,r,h=>by
  obtain ⟨e,ms',rfl,h1,h2,h3,h4⟩:=hc;simp only [dV_]at h;split at h;rename_i hq;cases h;have hs:=hE_ (w:=w) hk h1 hq;simp_all [Instr.findAsking]
  .rename_i hq;have hs:=hE_ (w:=w) hk h1 hq;have ih:=dW_ hk h4 h;cases r with
   |none=>simp_all [Instr.findAsking]
   |some p=>
    obtain ⟨j,q',a⟩:=p;obtain ⟨g1,e',n',g2,g3,g4,g5,g6⟩:=ih;refine ⟨by omega,e',n',?_,?_,g4,?_,g6⟩
    .grind
    simp_all [Instr.findAsking]
    grind
  cases h
def fm_ (P:Program) (H:AHeap) (t:TypeId):Option (AV×AHeap):=match H.room with
 |true=>some (.map H.next,H.push (.map [] 0))
 |false=>none
theorem j6_ (hr:Rel B pr E H w) {t:TypeId} {r:AV×AHeap} (h:fm_ P H t=some r):Gives P B pr E w (Instr.makeMap t none) r:=by unfold fm_ at h;split at h;rename_i hroom;cases h;obtain ⟨h1,h2⟩:=hr.new_map hroom;refine ⟨_,.map (some w.heap.size),w.alloc (.map #[] 0),by rfl,h1,h2,?_⟩;exact ⟨w.heap.size,by simp [Env.bind],rfl⟩;cases h
def jj_ (ok:Bool) (a:AV) (b:Bool):AV:=match ok with
 |true=>.tup [a,.bool b]
 |false=>a
theorem c7_ {a:AV} {v:Value} (h:Con E a v) (ok b:Bool):Con E (jj_ ok a b) (if ok then .tuple #[v,.bool b]else v):=by cases ok;exact h;exact ⟨[v,.bool b],rfl,ConL.cons h (ConL.cons (by simp [Con]) (ConL.nil E))⟩
def dR_ (P:Program) (H:AHeap) (kt et:TypeId) (d:TypeDesc) (m k:AV) (ok:Bool):Option AV:=match eh_ d&&d7_ P kt k with
 |false=>none
 |true=>match P.info? et with
  |none=>none
  |some i=>match i.zero with
   |none=>none
   |some z=>match m with
    | .map id=>match H.get id with
      |some (.map es _)=>match dV_ P kt k es 0 with
        |some (some (_,_,a))=>some (jj_ ok a true)
        |some none=>some (jj_ ok (ofV z) false)
        |none=>none
      |_=>none
    |_=>none
theorem hZ_ (hr:Rel B pr E H w) {t kt et:TypeId} {d:TypeDesc} (hd:P.underlying t=some (.map kt et)) (hkd:P.underlying kt=some d) {m k:AV} {mv kv:Value} (hm:Con E m mv) (hk:Con E k kv) {ok:Bool} {r:AV}
  (h:dR_ P H kt et d m k ok=some r):∃v,(Instr.lookup t mv kv ok).run P w=.ok v w/\Con E r v:=by
 unfold dR_ at h;split at h;cases h;rename_i hb;obtain ⟨hn,hck0⟩:eh_ d=true/\d7_ P kt k=true:=by grind
 split at h;cases h;rename_i i hi;split at h;cases h;rename_i z hz;have hck:∀b,(Instr.checkKey b 10000 kt kv).run P w=.ok () w:=λb=>hz_ hk hck0 b;have hzv:(zeroValue et).run P w=.ok z w:=by simp [zeroValue,typeInfo,hi,hz]
 split at h;obtain ⟨b,hφ,rfl⟩:=hm;split at h;rename_i es clock cr_;obtain ⟨_,es',hg,hce⟩:=hr.blk cr_ hφ;have hgo:(getObj b).run P w=.ok (.map es' clock) w:=(by simp [getObj,Sem.run,hg]);split at h;rename_i j q a hf;cases h;have:=dW_ (w:=w) hk hce hf;obtain ⟨_,e,n,_,hfn,hca,_⟩:=this;refine ⟨_,?_,c7_ hca ok true⟩;simp [Instr.lookup,run_underlying hd,hgo,hck,cj_ hkd hn,hfn];rename_i hf;cases h;have:=dW_ (w:=w) hk hce hf;refine ⟨_,?_,c7_ (cX_ E z) ok false⟩;simp [Instr.lookup,run_underlying hd,hgo,hck,cj_ hkd hn,this,hzv];cases h;cases h;cases h
def bt_ (P:Program) (H:AHeap) (t:TypeId) (m k:AV) (ok:Bool):Option AV:=match P.underlying t with
 |some (.map kt et)=>match P.underlying kt with
  |some d=>match gx_ d k with
   |false=>dR_ P H kt et d m k ok
   |true=>match P.info? et with
    |none=>none
    |some i=>match i.zero with
     |none=>none
     |some z=>match m with
      | .nmap=>some (jj_ ok (ofV z) false)
      | .map id=>match H.get id with
        |some (.map es _)=>match dT_ d k es 0 with
          |some (some (_,a))=>some (jj_ ok a true)
          |some none=>some (jj_ ok (ofV z) false)
          |none=>none
        |_=>none
      |_=>none
  |none=>none
 |_=>none
theorem eI_ (hr:Rel B pr E H w) {t:TypeId} {m k:AV} {mv kv:Value} (hm:Con E m mv) (hk:Con E k kv) {ok:Bool} {r:AV} (h:bt_ P H t m k ok=some r):
  ∃v,(Instr.lookup t mv kv ok).run P w=.ok v w/\Con E r v:=by
 unfold bt_ at h;split at h
 case h_2=>cases h
 rename_i kt et hd;split at h
 case h_2=>cases h
 rename_i d hkd;split at h;exact hZ_ hr hd hkd hm hk h;rename_i hko;split at h;cases h;rename_i i hi;split at h;cases h;rename_i z hz;have hck:∀b,(Instr.checkKey b 10000 kt kv).run P w=.ok () w:=λb=>hO_ hkd hk hko b 9999;have hzv:(zeroValue et).run P w=.ok z w:=by simp [zeroValue,typeInfo,hi,hz]
 cases m<;>simp only [reduceCtorEq]at h
 case nmap=>
  cases h;refine ⟨_,?_,c7_ (cX_ E z) ok false⟩;simp_all [Con,Instr.lookup,run_underlying,Instr.findKey,Instr.findNow]
 case map id=>
  obtain ⟨b,hφ,rfl⟩:=hm;split at h;rename_i es clock cr_;obtain ⟨_,es',hg,hce⟩:=hr.blk cr_ hφ;have hgo:(getObj b).run P w=.ok (.map es' clock) w:=(by simp [getObj,Sem.run,hg]);split at h;rename_i j a hf;cases h;have:=dU_ hk hce hf;obtain ⟨_,e,q,n,_,hfn,hca,_⟩:=this;refine ⟨_,?_,c7_ hca ok true⟩;simp [Instr.lookup,run_underlying hd,hgo,hck,Instr.findKey,run_underlying hkd,hfn];rename_i hf;cases h;have:=dU_ hk hce hf;refine ⟨_,?_,c7_ (cX_ E z) ok false⟩;simp [Instr.lookup,run_underlying hd,hgo,hck,Instr.findKey,run_underlying hkd,this,hzv];cases h;cases h
theorem gq_ (hr:Rel B pr E H w) {t:TypeId} {m k:AV} {mv kv:Value} (hm:Con E m mv) (hk:Con E k kv) {ok:Bool} {r:AV} (h:bt_ P H t m k ok=some r):
  Gives P B pr E w (Instr.lookup t mv kv ok) (r,H):=by
 obtain ⟨v,h1,h2⟩:=eI_ hr hm hk h;exact Gives.still hr h1 h2
def oj_:List (AV×AV×Nat)->Nat->AV->List (AV×AV×Nat)
 |[],_,_=>[]
 |(k,_,n)::r,0,v=>(k,v,n)::r
 |e::r,i+1,v=>e::oj_ r i v
def e3_:List (AV×AV×Nat)->(AV×AV×Nat)->List (AV×AV×Nat)
 |[],e=>[e]
 |a::r,e=>a::e3_ r e
theorem hp_ {q v:AV} {n:Nat} {e:MapEntry} (h1:Con E q e.key) (h2:Con E v e.val) (h3:e.born=n):∀{es:List (AV×AV×Nat)} {ms:List MapEntry},ConE E es ms->ConE E (e3_ es (q,v,n)) (ms++[e])
 |[],ms,h=>by simp only [ConE]at h;simp only [e3_,ConE];grind
 |(k,u,m)::r,ms,h=>by obtain ⟨e',ms',rfl,g1,g2,g3,g4⟩:=h;exact ⟨e',ms'++[e],rfl,g1,g2,g3,hp_ h1 h2 h3 g4⟩
theorem mX_ {v:AV} {vv kv:Value} (hv:Con E v vv):∀{es:List (AV×AV×Nat)} {ms:List MapEntry} {i:Nat} {q a:AV} {n:Nat},ConE E es ms->es[i]? =some (q,a,n)->Con E q kv->
  ConE E (oj_ es i v) (ms.modify i λe=>{ e with key:=kv,val:=vv })
 |[],ms,i,q,a,n,h,hi,_=>by simp at hi
 |(k,u,m)::r,ms,0,q,a,n,h,hi,hq=>by
  grind [oj_,ConE]
 |(k,u,m)::r,ms,i+1,q,a,n,h,hi,hq=>by obtain ⟨e',ms',rfl,g1,g2,g3,g4⟩:=h;simp only [oj_,ConE];exact ⟨e',_,by simp,g1,g2,g3,mX_ hv g4 (by simpa using hi) hq⟩
def mY_:List (AV×AV×Nat)->Nat->AV->AV->List (AV×AV×Nat)
 |[],_,_,_=>[]
 |(_,_,n)::r,0,k,v=>(k,v,n)::r
 |e::r,i+1,k,v=>e::mY_ r i k v
theorem mZ_ {k v:AV} {kv vv:Value} (hk:Con E k kv) (hv:Con E v vv):∀{es:List (AV×AV×Nat)} {ms:List MapEntry} {i:Nat},ConE E es ms->ConE E (mY_ es i k v) (ms.modify i λe=>{ e with key:=kv,val:=vv })
 |[],ms,i,hc=>by
  grind [ConE,mY_]
 |(q,a,n)::es,ms,0,hc=>by
  simp only [ConE]at hc;simp only [mY_,ConE,List.modify_zero_cons]
  grind
 |(q,a,n)::es,ms,i+1,hc=>by obtain ⟨e,ms',rfl,h1,h2,h3,h4⟩:=hc;exact ⟨_,_,rfl,h1,h2,h3,mZ_ hk hv h4⟩
def ch_ (P:Program) (H:AHeap) (kt:TypeId) (d:TypeDesc) (m k v:AV):Option (AV×AHeap):=match eh_ d&&d7_ P kt k with
 |false=>none
 |true=>match m with
  | .map id=>match H.get id with
    |some (.map es clock)=>match dV_ P kt k es 0 with
     |some (some (i,q,_))=>match dM_ k q with
      |true=>some (.tup [],H.set id (.map (mY_ es i k v) clock))
      |false=>none
     |some none=>some (.tup [],H.set id (.map (e3_ es (k,v,clock)) (Nat.succ clock)))
     |none=>none
    |_=>none
  |_=>none
theorem gX_ (hr:Rel B pr E H w) {t kt et:TypeId} {d:TypeDesc} (hd:P.underlying t=some (.map kt et)) (hkd:P.underlying kt=some d) {m k v:AV} {mv kv vv:Value} (hm:Con E m mv) (hk:Con E k kv) (hv:Con E v vv)
  {r:AV×AHeap} (h:ch_ P H kt d m k v=some r):∃w',(Instr.mapUpdate t mv kv vv).run P w=.ok () w'/\Rel B pr E r.2 w'/\r.1=.tup []:=by
 unfold ch_ at h;split at h;cases h;rename_i hb;obtain ⟨hn,hck0⟩:eh_ d=true/\d7_ P kt k=true:=by grind
 have hck:(Instr.checkKey false 10000 kt kv).run P w=.ok () w:=hz_ hk hck0 false;split at h
 case h_2=>cases h
 obtain ⟨b,hφ,rfl⟩:=hm;split at h
 case h_2=>cases h
 rename_i es clock cr_;obtain ⟨_,es',hg,hce⟩:=hr.blk cr_ hφ;have hgo:(getObj b).run P w=.ok (.map es' clock) w:=by simp [getObj,Sem.run,hg]
 have hso:∀o:Obj,(setObj b o).run P w=.ok () { w with heap:=w.heap.setIfInBounds b o }:=λo=>by simp [setObj,Sem.run,hg]
 split at h
 .rename_i i q a hf;split at h
  .rename_i hbits;cases h;have:=dW_ (w:=w) hk hce hf;obtain ⟨_,e,n,hmi,hfn,hca,hqi,hq⟩:=this;have hes:es'[i]? =some e:=(by grind);refine ⟨{ w with heap:=w.heap.setIfInBounds b (.map (es'.modify i λe=>{ e with key:=kv,val:=vv }) clock) },?_,?_,rfl⟩;have hsb:=lg_ hk hq hbits;simp_all [Instr.mapUpdate,run_underlying,cj_,Instr.keyThatStays]
   .refine hr.set_map cr_ hφ ?_
    grind [mZ_]
  cases h
 .rename_i hf;cases h;have:=dW_ (w:=w) hk hce hf;refine ⟨{ w with heap:=w.heap.setIfInBounds b (.map (es'.push { key:=kv,val:=vv,born:=clock }) (clock+1)) },?_,?_,rfl⟩;simp_all [Instr.mapUpdate,run_underlying,cj_]
  refine hr.set_map cr_ hφ ?_;rw [Array.toList_push];exact hp_ (e:={ key:=kv,val:=vv,born:=clock }) hk hv rfl hce
 cases h
def a5_ (P:Program) (H:AHeap) (t:TypeId) (m k v:AV):Option (AV×AHeap):=match P.underlying t with
 |some (.map kt _)=>match P.underlying kt with
  |some d=>match gx_ d k with
   |false=>ch_ P H kt d m k v
   |true=>match m with
    | .map id=>match H.get id with
      |some (.map es clock)=>match dT_ d k es 0 with
       |some (some (i,_))=>some (.tup [],H.set id (.map (oj_ es i v) clock))
       |some none=>some (.tup [],H.set id (.map (e3_ es (k,v,clock)) (Nat.succ clock)))
       |none=>none
      |_=>none
    |_=>none
  |none=>none
 |_=>none
theorem lU_ {d:TypeDesc} {k:AV} {kv:Value} (hk:Con E k kv) (h:gx_ d k=true):Instr.sameBits 10000 kv kv=true:=by cases d<;>cases k<;>simp only [gx_,Bool.false_eq_true]at h<;>(grind [Con,Instr.sameBits,ko_])
theorem bZ_ (hr:Rel B pr E H w) {t:TypeId} {m k v:AV} {mv kv vv:Value} (hm:Con E m mv) (hk:Con E k kv) (hv:Con E v vv) {r:AV×AHeap} (h:a5_ P H t m k v=some r):
  ∃w',(Instr.mapUpdate t mv kv vv).run P w=.ok () w'/\Rel B pr E r.2 w'/\r.1=.tup []:=by
 unfold a5_ at h;split at h
 case h_2=>cases h
 rename_i kt et hd;split at h
 case h_2=>cases h
 rename_i d hkd;split at h
 .grind [gX_]
 rename_i hko;have hck:(Instr.checkKey false 10000 kt kv).run P w=.ok () w:=hO_ hkd hk hko false 9999;split at h
 case h_2=>cases h
 obtain ⟨b,hφ,rfl⟩:=hm;split at h
 case h_2=>cases h
 rename_i es clock cr_;obtain ⟨_,es',hg,hce⟩:=hr.blk cr_ hφ;have hgo:(getObj b).run P w=.ok (.map es' clock) w:=by simp [getObj,Sem.run,hg]
 have hso:∀o:Obj,(setObj b o).run P w=.ok () { w with heap:=w.heap.setIfInBounds b o }:=λo=>by simp [setObj,Sem.run,hg]
 split at h
 .rename_i i a hf;cases h;have:=dU_ hk hce hf;obtain ⟨_,e,q,n,hmi,hfn,hca,hqi,hke,hq⟩:=this;have hes:es'[i]? =some e:=(by grind);refine ⟨{ w with heap:=w.heap.setIfInBounds b (.map (es'.modify i λe=>{ e with key:=kv,val:=vv }) clock) },?_,?_,rfl⟩;have hsb:=lU_ hk hko;simp_all [Instr.mapUpdate,run_underlying,Instr.findKey,Instr.keyThatStays]
  .refine hr.set_map cr_ hφ ?_;rw [Array.toList_modify]
   grind [mX_]
 .rename_i hf;cases h;have:=dU_ hk hce hf;refine ⟨{ w with heap:=w.heap.setIfInBounds b (.map (es'.push { key:=kv,val:=vv,born:=clock }) (clock+1)) },?_,?_,rfl⟩;simp_all [Instr.mapUpdate,run_underlying,Instr.findKey]
  refine hr.set_map cr_ hφ ?_;rw [Array.toList_push];exact hp_ (e:={ key:=kv,val:=vv,born:=clock }) hk hv rfl hce
 cases h
def mQ_:List (AV×AV×Nat)->Nat
 |[]=>0
 |_::r=>Nat.succ (mQ_ r)
theorem i7_:∀{es:List (AV×AV×Nat)} {ms:List MapEntry},ConE E es ms->mQ_ es=ms.length
 |[],ms,h=>by grind [ConE,mQ_]
 |(k,u,m)::r,ms,h=>by obtain ⟨e',ms',rfl,g1,g2,g3,g4⟩:=h;simp [mQ_,i7_ g4]
def cJ_ (P:Program) (H:AHeap) (t:TypeId) (x:AV):Option AV:=match P.underlying t with
 |some .string=>match x with
  | .str s=>some (mkI .i64 (.ofNat (hd_ s)))
  |_=>none
 |some (.slice _)=>match x with
  | .nsl=>some (.int .i64 (.ofNat 0))
  | .sl _ _ n _ _=>some (.int .i64 (.ofNat n))
  | .vsl n _ _=>some (.int .i64 (.ofNat n))
  |_=>none
 |some (.array n _)=>some (.int .i64 (.ofNat n))
 |some (.map _ _)=>match x with
  | .nmap=>some (.int .i64 (.ofNat 0))
  | .map id=>match H.get id with
    |some (.map es _)=>some (mkI .i64 (.ofNat (mQ_ es)))
    |_=>none
  |_=>none
 |_=>none
theorem qf_ (hr:Rel B pr E H w) {t ty:TypeId} {x:AV} {v:Value} (hx:Con E x v) {r:AV} (h:cJ_ P H t x=some r):Gives P B pr E w (Builtin.len_ #[t] ty #[v]) (r,H):=by unfold cJ_ at h;split at h;rename_i hd;split at h;rename_i s;cases h;subst hx;rw [cA_];refine Gives.still hr (v:=.int .i64 (Int.ofNat (hd_ s))) ?_ (by simp [Con]);simp [Builtin.len_,run_underlying hd,goInt,cF_];rfl;cases h;rename_i hd;split at h;cases h;subst hx;exact Gives.still hr (v:=.int .i64 (Int.ofNat 0)) (by simp [Builtin.len_,run_underlying hd,goInt]) (by simp [Con]);rename_i n sz c;cases h;obtain ⟨_,_,_,_,_,_,_,rfl,_⟩:=hx;exact Gives.still hr (v:=.int .i64 (Int.ofNat n)) (by simp [Builtin.len_,run_underlying hd,goInt]) (by simp [Con]);rename_i n sz c;cases h;obtain ⟨_,_,_,_,hq,_⟩:=hx;obtain ⟨_,rfl⟩:=hq.sl;exact Gives.still hr (v:=.int .i64 (Int.ofNat n)) (by simp [Builtin.len_,run_underlying hd,goInt]) (by simp [Con]);cases h;rename_i n _ hd;cases h;exact Gives.still hr (v:=.int .i64 (Int.ofNat n)) (by simp_all [Builtin.len_,run_underlying,goInt]) (by simp [Con]);rename_i hd;split at h;cases h;subst hx;exact Gives.still hr (v:=.int .i64 (Int.ofNat 0)) (by simp [Builtin.len_,run_underlying hd,goInt]) (by simp [Con]);obtain ⟨b,hφ,rfl⟩:=hx;split at h;rename_i es clock cr_;cases h;obtain ⟨_,es',hg,hce⟩:=hr.blk cr_ hφ;have hgo:(getObj b).run P w=.ok (.map es' clock) w:=(by simp [getObj,Sem.run,hg]);rw [cA_];refine Gives.still hr (v:=.int .i64 (Int.ofNat (mQ_ es))) ?_ (by simp [Con]);simp [Builtin.len_,run_underlying hd,goInt,hgo,i7_ hce];cases h;cases h;cases h
def uO_ (a b:Nat):Nat:=match Nat.ble a b with
 |true=>a
 |false=>b
theorem pr_ (a b:Nat):uO_ a b=min a b:=by
 grind [uO_,Nat.le_of_ble_eq_true,Nat.ble_eq_true_of_le]
theorem j7_ {x:AV} {v:Value} (hx:Con E x v) {n:Nat} (h:aU_ x=some n) (size:Nat):(Builtin.firstCells size 0 v).run P w=.ok #[] w:=by
 cases x<;>simp only [aU_,reduceCtorEq]at h<;>simp only [Con]at hx
 case nsl=>subst hx;rfl
 case sl=>obtain ⟨b,o,m,c,off',_,_,rfl,_⟩:=hx;simp [Builtin.firstCells,loadCells,loadCellsFrom]
 case vsl=>obtain ⟨b,o,vs,c,rfl|⟨rfl,a,rfl⟩,_⟩:=hx<;>simp [Builtin.firstCells,loadCells,loadCellsFrom]
 simp_all [Builtin.firstCells]
def ls_ (P:Program) (H:AHeap) (t:TypeId) (d s:AV):Option (AV×AHeap):=match P.underlying t with
 |some (.slice e)=>match P.info? e with
  |some i=>match aU_ d with
   |some dn=>match aU_ s with
    |some sn=>match uO_ sn dn with
     |0=>match d with
      | .sl _ _ _ _ _=>some (.int .i64 (.ofNat 0),H)
      | .nsl=>some (.int .i64 (.ofNat 0),H)
      |_=>none
     | .succ n'=>match ak_ H s (.succ n') i.size with
       |some l=>match d with
        | .sl id off _ _ _=>match H.get id with
           |some (.cells cs)=>match bd_ l with
            |true=>match dk_ off l cs with
             |some cs'=>some (.int .i64 (.ofNat (.succ n')),H.set id (.cells cs'))
             |none=>none
            |false=>none
           |_=>none
        |_=>none
       |none=>none
    |none=>none
   |none=>none
  |none=>none
 |_=>none
theorem n0_ (hr:Rel B pr E H w) {t tx ty:TypeId} {d s:AV} {dv sv:Value} (hd:Con E d dv) (hs:Con E s sv) {r:AV×AHeap} (h:ls_ P H t d s=some r):
  Gives P B pr E w (Builtin.copy_ #[t,tx] ty #[dv,sv]) r:=by
 unfold ls_ at h;split at h
 case h_2=>cases h
 rename_i e ht;split at h
 case h_2=>cases h
 rename_i i hi;split at h
 case h_2=>cases h
 rename_i dn hdn;split at h
 case h_2=>cases h
 rename_i sn hsn;have hsl:=f6_ hs hsn;split at h
 .rename_i hmin;rw [pr_]at hmin;have hf:=j7_ (P:=P) (w:=w) hs hsn i.size;cases d<;>simp only [reduceCtorEq]at h
  cases h;simp only [Con]at hd;cases hdn;refine Gives.still hr (v:=goInt (0:Nat)) ?_ (by rfl);simp_all [Builtin.copy_,run_underlying,af_]
  cases h;cases hdn;obtain ⟨b,o,m,c,off',hφ,hbs,rfl,hoff,hle,hfit,hcap⟩:=hd;refine Gives.still hr (v:=goInt (0:Nat)) ?_ (by rfl);simp [Builtin.copy_,run_underlying ht,af_ hi,hsl,hmin,hf,storeCells]
 .rename_i n' hmin;rw [pr_]at hmin;have hmin':Nat.min sn dn=n'+1:=hmin;have hmin:min sn dn=n'+1:=hmin;split at h
  case h_2=>cases h
  rename_i l hl;obtain ⟨vs,hf,hL,hlen⟩:=aR_ (P:=P) hr hs hsn (by omega) hl;cases d<;>simp only [reduceCtorEq]at h
  rename_i id off dn' sz cap;simp only [aU_]at hdn;cases hdn;simp only [Con]at hd;obtain ⟨b,o,m,c,off',hφ,hbs,rfl,hoff,hle,hfit,hcap⟩:=hd;split at h
  case h_2=>cases h
  rename_i cs hk;split at h
  case h_2=>cases h
  rename_i hone;split at h
  case h_2=>cases h
  rename_i cs' cT_;cases h;obtain rfl:=hoff (by omega);obtain ⟨w',g1,g2⟩:=hr_ (P:=P) hr hk hφ hL hone cT_;refine ⟨E,goInt ((n'+1:Nat):Int),w',?_,Env.le_refl _,g2,by rfl⟩;simp_all [Builtin.copy_,run_underlying,af_]
def b5_ (P:Program) (H:AHeap) (t:TypeId) (l c:AV):Option (AV×AHeap):=match P.underlying t with
 |some (.slice e)=>match P.info? e with
  |some i=>match i.zero with
   |some z=>match l,c with
    | .int _ (.ofNat ln),.int _ (.ofNat cn)=>match Nat.ble ln cn&&Nat.ble (Nat.mul i.bytes cn) 16777216&&Nat.ble cn 16777216&&Nat.beq (aL_ (at_ z)) i.size with
      |true=>match H.room with
       |true=>some (.sl H.next 0 ln i.size (some cn),H.push (.cells (ax_ (at_ z) cn)))
       |false=>none
      |false=>none
    |_,_=>none
   |none=>none
  |none=>none
 |_=>none
theorem eq_ (hr:Rel B pr E H w) {t:TypeId} {l c:AV} {lv cv:Value} (hl:Con E l lv) (hc:Con E c cv) {r:AV×AHeap} (h:b5_ P H t l c=some r):
  Gives P B pr E w (Instr.makeSlice t lv cv) r:=by
 unfold b5_ at h;split at h
 case h_2=>cases h
 rename_i e hd;split at h
 case h_2=>cases h
 rename_i i hi;split at h
 case h_2=>cases h
 rename_i z hz;split at h
 case h_2=>cases h
 rename_i k ln k' cn;split at h
 case h_2=>cases h
 rename_i hb;obtain ⟨hb,b4⟩:=aa_ hb;obtain ⟨hb,b3⟩:=aa_ hb;obtain ⟨b1,b2⟩:=aa_ hb;have b1:=Nat.le_of_ble_eq_true b1;have b2:i.bytes*cn<=16777216:=Nat.le_of_ble_eq_true b2;have b3:=Nat.le_of_ble_eq_true b3;have b4:=Nat.eq_of_beq_eq_true b4;rw [ai_]at b4;split at h
 case h_2=>cases h
 rename_i hroom;cases h;subst hl hc;have hzs:z.cells.size=i.size:=by have:=(a8_ E z).length;grind
 have hrun:=run_make (P:=P) w t e i z hd hi hz k k' (Int.ofNat ln) (Int.ofNat cn) (by simp) (by simp;omega) (by
  grind) (by grind)
 have hbase:ConL E (ax_ (at_ z) cn) (madeCells z.cells (cn*i.size)).toList:=by
  refine ConL.of_at ?_ λq x u hx hu=>?_
  .grind [aQ_,size_madeCells]
  .have hq:q<cn*i.size:=by
     grind [aQ_]
   rw [el_ _ _ _ (by grind),b4]at hx;obtain ⟨u',hu',hcu⟩:=(a8_ E z).at _ _ hx
   grind [madeCells]
 have hne:eJ_ H (ax_ (at_ z) cn)=some (.ptr H.next 0,H.push (.cells (ax_ (at_ z) cn))):=by simp [eJ_,hroom]
 obtain ⟨E',g1,g2,g3,g4,g5⟩:=gY_ hr e hbase hne;refine ⟨E',_,_,hrun,g1,g2,?_⟩;refine ⟨w.heap.size,0,_,cn,0,g5,g3,rfl,λ_=>rfl,b1,?_,λq hq=>by cases hq;rfl⟩;simp [size_madeCells]
def gf_:List AV->Option (List UInt8)
 |[]=>some []
 | .int .u8 (.ofNat n)::r=>match gf_ r with
   |some l=>some (UInt8.ofNat n::l)
   |none=>none
 |_=>none
theorem eC_:∀{as:List AV} {vs:List Value} {l:List UInt8},gf_ as=some l->ConL E as vs->∃ns:List Int,vs=ns.map (Value.int .u8)/\ns.map (λn=>UInt8.ofNat n.toNat)=l
 |[],vs,l,h,hc=>by simp only [gf_]at h;simp only [ConL]at hc;simp_all
 |a::as,vs,l,h,hc=>by
  obtain ⟨v,r,rfl,h2,h3⟩:=hc;unfold gf_ at h;split at h
  .grind
  rename_i n r' heq;cases heq;split at h;rename_i l' hl';cases h;obtain ⟨ns,h4,h5⟩:=eC_ hl' h3;subst h2;exact ⟨(n:Int)::ns,by simp [h4],by simp [h5]⟩;cases h;cases h
def bL_ (P:Program) (H:AHeap) (src dst:TypeId) (x:AV):Option AV:=match P.underlying src,P.underlying dst with
 |some (.slice e),some .string=>match P.underlying e with
  |some (.int .u8)=>match x with
   | .nsl=>some (.str [])
   | .str _=>none
   |x=>match aU_ x with
    |some n=>match ak_ H x n 1 with
     |some l=>match Nat.beq (aL_ l) n with
      |true=>match gf_ l with
       |some s=>some (.str s)
       |none=>none
      |false=>none
     |none=>none
    |none=>none
  |_=>none
 |_,_=>none
theorem iT_ (l:List UInt8):∀(s:ByteArray),l.foldl (λr b=>r.push b) s=⟨⟨s.data.toList++l⟩⟩:=by
 induction l<;>simp_all
theorem iM_ (hr:Rel B pr E H w) {src dst:TypeId} {x:AV} {v:Value} (hx:Con E x v) {r:AV} (h:bL_ P H src dst x=some r):Gives P B pr E w (convert src dst v) (r,H):=by
 unfold bL_ at h;split at h
 case h_2=>cases h
 rename_i e hs hd;split at h
 case h_2=>cases h
 rename_i he;split at h;cases h;simp only [Con]at hx;refine Gives.still hr (v:=.string .empty) ?_ (by rfl);simp_all [convert,run_underlying,Conv.bytesToString]
 cases h
 .rename_i hne hns;split at h
  case h_2=>cases h
  rename_i n hn;split at h
  case h_2=>cases h
  rename_i l hl;split at h
  case h_2=>cases h
  split at h
  case h_2=>cases h
  rename_i s hbs;cases h;obtain ⟨vs,hf,hL,_⟩:=aR_ (P:=P) hr hx hn (Nat.le_refl _) hl;obtain ⟨ns,rfl,hns⟩:=eC_ hbs hL;have key:∀(a:Addr) (m c:Nat),v=.slice (some a) m c->m=n->Gives P B pr E w (convert src dst v) (.str s,H):=by
   intro a m c hv hm;subst hv hm;have hlc:(loadCells a m).run P w=.ok (ns.map (Value.int .u8)).toArray w:=by
    have hf':(loadCells a (m*1)).run P w=.ok (ns.map (Value.int .u8)).toArray w:=hf
    grind
   refine Gives.still hr (v:=.string ⟨⟨s⟩⟩) ?_ (by simp [Con]);rw [run_convert_bytes_string w src dst e (some a) m c hs he hd,run_bytesToString w a m c ns hlc];have e1:ns.foldl (λr n=>r.push (UInt8.ofNat n.toNat)) ByteArray.empty=(ns.map (λn=>UInt8.ofNat n.toNat)).foldl (λr b=>r.push b) ByteArray.empty:=(by rw [List.foldl_map]);simp_all [iT_]
  cases x<;>simp only [aU_,reduceCtorEq]at hn
  case nsl=>grind
  case sl=>
   simp only [Con]at hx
   grind
  case vsl=>
   simp only [Con]at hx;obtain ⟨_,_,_,_,hq,_⟩:=hx;obtain ⟨_,rfl⟩:=hq.sl
   grind
  grind
end
end Go.Sx
