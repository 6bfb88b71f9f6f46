/-
  The evaluator's operations that lay or write memory, and that the model's do the same.
-/
import Derived.Test.YtjconanknjgpnaaGreatSxB
set_option linter.unusedVariables false
set_option linter.unusedSimpArgs false
namespace Go.Sx
section
variable {P:Program} {B:World} {pr:Nat->Prop} {E:Env} {H:AHeap} {w:World}
def eE_ (H:AHeap) (cs:List AV):Option (AV×AHeap):=match H.room with
 |true=>some (.ptr H.next 0,H.push (.cells cs))
 |false=>none
theorem qI_ {cs:List AV} {arr:Array Value} (h:ConL E cs arr.toList):∀(i:Nat) (a:AV),cs[i]? =some a->∃v,arr[i]? =some v/\Con E a v:=λi a ha=>by
 obtain ⟨v,hv,hc⟩:=h.at i a ha
 grind
theorem gF_ (hr:Rel B pr E H w) {cs:List AV} {arr:Array Value} (t:TypeId) (hc:ConL E cs arr.toList) {r:AV×AHeap} (h:eE_ H cs=some r):
  ∃E',E.le E'/\Rel B pr E' r.2 (w.alloc (.cells arr t))/\E'.sz w.heap.size=some arr.size/\r.1=.ptr H.next 0/\E'.φ H.next=some (w.heap.size,0):=by
 unfold eE_ at h;split at h;rename_i hroom;cases h;obtain ⟨h1,h2⟩:=hr.new_cells hroom (cs:=cs) (arr:=arr) (t:=t) (by have:=hc.length;grind) (qI_ hc);exact ⟨_,h1,h2,by simp [Env.size],rfl,by simp [Env.size,Env.bind]⟩;cases h
theorem hn_ (hr:Rel B pr E H w) {cs:List AV} {arr:Array Value} {t:TypeId} (hc:ConL E cs arr.toList) {r:AV×AHeap} (h:eE_ H cs=some r) {s:Sem Value}
  (hs:s.run P w=.ok (.pointer (some ⟨w.heap.size,0,none⟩)) (w.alloc (.cells arr t))):Gives P B pr E w s r:=by
 obtain ⟨E',h1,h2,h3,h4,h5⟩:=gF_ hr t hc h;exact ⟨E',_,_,hs,h1,h2,by rw [h4];simp only [Con];grind⟩
def e7_ (P:Program) (H:AHeap) (t:TypeId):Option (AV×AHeap):=match P.info? t with
 |some i=>match i.zero with
  |some z=>eE_ H (aF_ z)
  |none=>none
 |none=>none
theorem l5_ (hr:Rel B pr E H w) {t:TypeId} {r:AV×AHeap} (h:e7_ P H t=some r):Gives P B pr E w (Instr.alloc t true (.tuple #[])) r:=by unfold e7_ at h;split at h;rename_i i hi;split at h;rename_i z hz;refine hn_ hr (t:=t) (ba_ E z) h ?_;simp [Instr.alloc,zeroValue,typeInfo,hi,hz,newVar,newRow];cases h;cases h
def l6_ (H:AHeap) (a:AV):Option (AV×AHeap):=match a with
 | .opq=>none
 |a=>eE_ H a.cells
theorem pF_ (hr:Rel B pr E H w) {t:TypeId} {a:AV} {v:Value} (hc:Con E a v) {r:AV×AHeap} (h:l6_ H a=some r):Gives P B pr E w (Instr.box t v) r:=by unfold l6_ at h;split at h;cases h;rename_i hne;exact hn_ hr (t:=t) (hc.cells hne) h (by simp [Instr.box,newVar,newRow])
def dk_:Nat->List AV->List AV->Option (List AV)
 |0,[],cs=>some cs
 |0,_::_,[]=>none
 |0,x::xs,_::cs=>match dk_ 0 xs cs with
  |some r=>some (x::r)
  |none=>none
 |_+1,_,[]=>none
 |n+1,xs,c::cs=>match dk_ n xs cs with
  |some r=>some (c::r)
  |none=>none
theorem dl_:∀(cs:List AV) {n:Nat} {xs r:List AV},dk_ n xs cs=some r->n+xs.length<=cs.length/\r=cs.take n++xs++cs.drop (n+xs.length)
 |cs,0,[],r,h=>by grind [dk_]
 |[],0,x::xs,r,h=>by simp [dk_]at h
 |c::cs,0,x::xs,r,h=>by
  simp only [dk_]at h;split at h
  .rename_i r' hr';obtain ⟨h1,h2⟩:=dl_ cs hr'
   grind
  cases h
 |[],n+1,xs,r,h=>by simp [dk_]at h
 |c::cs,n+1,xs,r,h=>by
  simp only [dk_]at h;split at h
  .rename_i r' hr';obtain ⟨h1,h2⟩:=dl_ cs hr'
   grind
  cases h
theorem mX_ {cs:List AV} {n:Nat} {xs r:List AV} (h:dk_ n xs cs=some r) (i:Nat):
  r[i]? =if n<=i/\i<n+xs.length then xs[i-n]? else cs[i]? :=by
 obtain ⟨h1,h2⟩:=dl_ cs h;subst h2;by_cases ha:i<n
 .grind
 grind
theorem g3_ (l:List Value) (n:Nat) (xs:List Value) (hl:n+xs.length<=l.length) (i:Nat):
  (l.take n++xs++l.drop (n+xs.length))[i]? =if n<=i/\i<n+xs.length then xs[i-n]? else l[i]? :=by
 by_cases ha:i<n
 .grind
 grind
def bb_:List AV->Bool
 |[]=>true
 |a::r=>match a.one with
  |true=>bb_ r
  |false=>false
theorem fY_:∀{as:List AV} {vs:List Value},ConL E as vs->bb_ as=true->∀v∈vs,v.oneCell'=true
 |[],vs,h,_,v,hv=>by grind [ConL]
 |a::as,vs,h,ho,v,hv=>by
  obtain ⟨u,r,rfl,h2,h3⟩:=h;simp only [bb_]at ho;split at ho
  .rename_i hx;cases hv with
   |head=>exact h2.one hx
   |tail _ hm=>exact fY_ h3 ho v hm
  cases ho
theorem g8_ (hr:Rel B pr E H w) {id:Nat} {cs:List AV} (hk:H.get id=some (.cells cs)) {b o:Nat} (hφ:E.φ id=some (b,o)) {off:Nat} {xs:List AV} {vs:List Value} (hL:ConL E xs vs)
  (hone:bb_ xs=true) {cs':List AV} (cS_:dk_ off xs cs=some cs'):
  ∃w',(storeCells ⟨b,o+off,none⟩ vs 0).run P w=.ok () w'/\Rel B pr E (H.set id (.cells cs')) w':=by
 obtain ⟨arr,t,g1,g2,g3,g4⟩:=hr.blk hk hφ;obtain ⟨s1,s2⟩:=dl_ cs cS_;have hlen:=hL.length;have hst:=run_storeCells_at P b (o+off) t vs 0 arr w g1 (by omega) (fY_ hL hone);simp only [Nat.add_zero]at hst;refine ⟨_,hst,?_⟩;refine hr.set_cells hk hφ g1 (arr':=(arr.toList.take (o+off)++vs++arr.toList.drop (o+off+vs.length)).toArray) ?_ (cs':=cs') ?_ ?_;simp;omega;have:cs'.length=cs.length:=(by rw [s2];simp;omega);omega;intro i a ha;rw [mX_ cS_]at ha;have hseg:=g3_ arr.toList (o+off) vs (by simp;omega) (o+i);rw [List.getElem?_toArray,hseg];split at ha;rename_i hb;rw [if_pos (by omega)];obtain ⟨v,hv,hc⟩:=hL.at _ _ ha;exact ⟨v,by rw [show o+i-(o+off)=i-off by omega];exact hv,hc⟩;rename_i hb;rw [if_neg (by omega)];obtain ⟨v,hv,hc⟩:=g4 i a ha;exact ⟨v,by simpa using hv,hc⟩
def cc_ (P:Program) (H:AHeap) (t:TypeId) (a v:AV):Option (AV×AHeap):=match P.info? t with
 |some i=>match a with
  | .ptr id off=>match v with
    | .opq=>none
    |v=>match Nat.beq v.cells.length i.size with
     |true=>match bb_ v.cells with
      |true=>match H.get id with
       |some (.cells cs)=>match dk_ off v.cells cs with
          |some cs'=>some (.tup [],H.set id (.cells cs'))
          |none=>none
       |_=>none
      |false=>none
     |false=>none
  |_=>none
 |none=>none
theorem ho_ (hr:Rel B pr E H w) {t:TypeId} {a x:AV} {v u:Value} (hc:Con E a v) (hx:Con E x u) {r:AV×AHeap} (h:cc_ P H t a x=some r):
  ∃w',(Instr.storeAt t v u).run P w=.ok () w'/\Rel B pr E r.2 w':=by
 unfold cc_ at h;split at h
 .rename_i i hi;split at h
  .rename_i id off;split at h;cases h
   .rename_i hne;split at h
    .rename_i hlen;split at h
     .rename_i hone;split at h
      .rename_i cs hk;split at h
       .rename_i cs' cS_;cases h;simp only [Con]at hc;obtain ⟨b,o,hφ,rfl⟩:=hc;have hL:=hx.cells hne;obtain ⟨w',h1,h2⟩:=g8_ (P:=P) hr hk hφ hL hone cS_;refine ⟨w',?_,h2⟩;have hsz:u.cells.size=i.size:=by have:=hL.length;rw [Nat.eq_of_beq_eq_true hlen]at this;simpa using this
        simp [Instr.storeAt,Instr.sureAddr,storeVar,ai_ hi,hsz,h1]
       cases h
      cases h
     cases h
    cases h
  cases h
 cases h
def eN_ (P:Program):List Field->Option (List (Nat×Nat))
 |[]=>some []
 |f::r=>match P.info? f.type with
  |some i=>match eN_ P r with
   |some l=>some ((f.offset,i.size)::l)
   |none=>none
  |none=>none
theorem gh_:∀{fs:List Field} {l:List (Nat×Nat)},eN_ P fs=some l->∀w:World,(fs.mapM (m:=Sem) λf=>do pure (f.offset,←sizeOf f.type)).run P w=.ok l w
 |[],l,h,w=>by simp only [eN_]at h;cases h;simp
 |f::r,l,h,w=>by simp only [eN_]at h;split at h;rename_i i hi;split at h;rename_i l' hl';cases h;have ih:=gh_ hl' w;simp only [List.mapM_cons,Sem.run_bind,ai_ hi,Result.andThen_ok,Sem.run_pure,ih];cases h;cases h
def f7_ (place:Nat->Option (Nat×Nat)):List AV->List (Nat×AV)->Option (List AV)
 |cells,[]=>some cells
 |cells,(i,v)::rest=>match place i with
  |none=>none
  |some (off,size)=>match v with
   | .opq=>none
   |v=>match Nat.beq v.cells.length size with
    |true=>match dk_ off v.cells cells with
     |some cells'=>f7_ place cells' rest
     |none=>none
    |false=>none
theorem qZ_ (xs:List Value):∀(j off:Nat) (arr:Array Value),off+j+xs.length<=arr.size->
  ((xs.zipIdx j).foldl (λ(cs:Array Value) (p:Value×Nat)=>cs.setIfInBounds (off+p.2) p.1) arr).toList=arr.toList.take (off+j)++xs++arr.toList.drop (off+j+xs.length):=by
 induction xs with
 |nil=>intro j off arr h;simp
 |cons x xs ih=>intro j off arr h;simp only [List.length_cons]at h;simp only [List.zipIdx_cons,List.foldl_cons];rw [ih (j+1) off _ (by simp;omega)];apply List.ext_getElem?;intro i;have hs:(arr.setIfInBounds (off+j) x).toList.length=arr.size:=(by simp);have e1:=g3_ (arr.setIfInBounds (off+j) x).toList (off+(j+1)) xs (by rw [hs];omega) i;have e2:=g3_ arr.toList (off+j) (x::xs) (by simp;omega) i;rw [e1];simp only [List.length_cons]at e2⊢;rw [e2];by_cases c1:i=off+j;subst c1;rw [if_neg (by omega),if_pos (by omega)];have:off+j<arr.size:=(by omega);simp [Array.getElem?_setIfInBounds,this];by_cases c2:off+(j+1)<=i/\i<off+(j+1)+xs.length;rw [if_pos c2,if_pos (by omega)];rw [show i-(off+j)=(i-(off+(j+1)))+1 by omega];simp;rw [if_neg c2,if_neg (by omega)];simp only [Array.getElem?_toList,Array.getElem?_setIfInBounds];rw [if_neg (λe=>c1 e.symm)]
theorem fe_ {place:Nat->Option (Nat×Nat)}:∀{parts:List (Nat×AV)} {vparts:List (Nat×Value)} {cells r:List AV} {arr:Array Value},f7_ place cells parts=some r->ConL E cells arr.toList->
  (vparts.map (·.1)=parts.map (·.1))->ConL E (parts.map (·.2)) (vparts.map (·.2))->∃arr',Instr.fill place arr vparts=some arr'/\ConL E r arr'.toList
 |[],vparts,cells,r,arr,h,hc,hn,hL=>by simp only [f7_]at h;cases h;have:vparts=[]:=(by simpa using hn);subst this;exact ⟨arr,rfl,hc⟩
 |(i,a)::rest,vparts,cells,r,arr,h,hc,hn,hL=>by
  cases vparts with
  |nil=>simp at hn
  |cons p vrest=>
   obtain ⟨i',v⟩:=p;simp only [List.map_cons,List.cons.injEq]at hn;obtain ⟨rfl,hn⟩:=hn;simp only [List.map_cons,ConL]at hL;obtain ⟨v',r',he,hcv,hL'⟩:=hL;cases he;simp only [f7_]at h;split at h;cases h
   .rename_i off size hp;split at h;cases h
    .rename_i hne;split at h
     .rename_i hlen;split at h
      .rename_i cells' cS_;have hcc:=hcv.cells hne;have hvl:=hcc.length;rw [Nat.eq_of_beq_eq_true hlen]at hvl;obtain ⟨s1,s2⟩:=dl_ cells cS_;have hsz:v.cells.size=size:=(by simpa using hvl);have hal:arr.size=cells.length:=(by have:=hc.length;simpa using this);rw [Nat.eq_of_beq_eq_true hlen]at s1;have hfold:(v.cells.zipIdx.foldl (λcs (c,j)=>cs.setIfInBounds (off+j) c) arr).toList=arr.toList.take (off+0)++v.cells.toList++arr.toList.drop (off+0+v.cells.toList.length):=by rw [←qZ_ v.cells.toList 0 off arr (by simp;omega)];rw [←Array.foldl_toList];simp
       have:=fe_ (vparts:=vrest) h (arr:=v.cells.zipIdx.foldl (λcs (c,j)=>cs.setIfInBounds (off+j) c) arr) ?_ hn hL';obtain ⟨arr',h1,h2⟩:=this;refine ⟨arr',?_,h2⟩;simp only [Instr.fill,hp];rw [if_neg (by simp [hsz];omega)];exact h1;rw [hfold];refine ConL.of_at ?_ λk x u hx hu=>?_;rw [s2];have:=hcc.length;simp;omega;rw [mX_ cS_]at hx;rw [Nat.add_zero,g3_ _ _ _ (by simp;omega)]at hu;have hll:=hcc.length;split at hx;rename_i hb;rw [if_pos (by omega)]at hu;obtain ⟨u',hu',hcu⟩:=hcc.at _ _ hx;rw [hu']at hu;cases hu;exact hcu;rename_i hb;rw [if_neg (by omega)]at hu;obtain ⟨u',hu',hcu⟩:=hc.at _ _ hx;rw [hu']at hu;cases hu;exact hcu
      cases h
     cases h
def p3_:List (Nat×Nat)->Nat->Option (Nat×Nat)
 |[],_=>none
 |a::_,0=>some a
 |_::r,n+1=>p3_ r n
theorem o1_:∀(l:List (Nat×Nat)) (n:Nat),p3_ l n=l[n]?
 |[],n=>by simp [p3_]
 |a::r,0=>rfl
 |a::r,n+1=>by simp [p3_,o1_ r n]
def f5_ (P:Program) (t:TypeId) (parts:List (Nat×AV)):Option AV:=match P.info? t with
 |some i=>match i.zero with
  |some z=>match P.underlying t with
   |some (.struct fields)=>match eN_ P fields.toList with
    |some pl=>match f7_ (p3_ pl) (aF_ z) parts with
     |some cs=>some (.agg cs)
     |none=>none
    |none=>none
   |some (.array _ elem)=>match P.info? elem with
    |some ie=>match f7_ (λi=>some (Nat.mul i ie.size,ie.size)) (aF_ z) parts with
     |some cs=>some (.agg cs)
     |none=>none
    |none=>none
   |_=>none
  |none=>none
 |none=>none
theorem l7_ (hr:Rel B pr E H w) {t:TypeId} {parts:List (Nat×AV)} {vparts:Array (Nat×Value)} (hn:vparts.toList.map (·.1)=parts.map (·.1))
  (hL:ConL E (parts.map (·.2)) (vparts.toList.map (·.2))) {r:AV} (h:f5_ P t parts=some r):Gives P B pr E w (Instr.build t vparts) (r,H):=by
 unfold f5_ at h;split at h
 .rename_i i hi;split at h
  .rename_i z hz;split at h
   .rename_i fields hd;split at h
    .rename_i pl hpl;split at h
     .rename_i cs hcs;cases h;obtain ⟨arr',h1,h2⟩:=fe_ hcs (ba_ E z) hn hL;have hpl':=gh_ hpl w;refine Gives.still hr (v:=.agg arr') ?_ (by simp only [Con];exact ⟨arr'.toList,by simp,h2⟩);have hm:(fields.mapM (m:=Sem) λf=>do pure (f.offset,←sizeOf f.type)).run P w=.ok pl.toArray w:=by rw [Array.mapM_eq_mapM_toList];simp only [Sem.run_map,hpl',Result.andThen_ok]
      have e:(λx=>pl.toArray[x]?)=p3_ pl:=(by funext x;rw [o1_];simp);simp only [Instr.build,Sem.run_bind,zeroValue,typeInfo,run_program,Result.andThen_ok,hi,hz,Sem.run_pure,run_underlying hd,hm];rw [e,h1];rfl
     cases h
    cases h
   rename_i n elem hd;split at h;rename_i ie hie;split at h;rename_i cs hcs;cases h;obtain ⟨arr',h1,h2⟩:=fe_ hcs (ba_ E z) hn hL;refine Gives.still hr (v:=.agg arr') ?_ (by simp only [Con];exact ⟨arr'.toList,by simp,h2⟩);simp only [Instr.build,Sem.run_bind,zeroValue,typeInfo,run_program,Result.andThen_ok,hi,hz,Sem.run_pure,run_underlying hd,ai_ hie];have e:(λi=>some (i*ie.size,ie.size))=(λi=>some (Nat.mul i ie.size,ie.size)):=rfl;rw [e,h1];rfl;cases h;cases h;cases h
  cases h
 cases h
def aV_ (z:List AV):Nat->List AV
 |0=>[]
 |n+1=>z++aV_ z n
theorem aO_ (z:List AV) (n:Nat):(aV_ z n).length=n*z.length:=by
 induction n with
 |zero=>simp [aV_]
 |succ n ih=>simp [aV_,ih,Nat.succ_mul];omega
theorem eg_ (z:List AV):∀(n i:Nat),i<n*z.length->(aV_ z n)[i]? =z[i%z.length]?
 |0,i,h=>by simp at h
 |n+1,i,h=>by simp only [aV_];by_cases hi:i<z.length;rw [List.getElem?_append_left hi,Nat.mod_eq_of_lt hi];rw [List.getElem?_append_right (by omega),eg_ z n (i-z.length) (by rw [Nat.succ_mul]at h;omega)];rw [←Nat.mod_eq_sub_mod (by omega)]
def bh_ (P:Program) (H:AHeap) (t:TypeId) (len:Nat) (parts:List (Nat×AV)):Option (AV×AHeap):=match P.underlying t with
 |some (.slice e)=>match P.info? e with
  |some i=>match i.zero with
   |some z=>match Nat.beq (aF_ z).length i.size with
    |true=>match Nat.ble (Nat.mul len i.size) 16777216 with
     |true=>match f7_ (λk=>some (Nat.mul k i.size,i.size)) (aV_ (aF_ z) len) parts with
      |some cs=>match H.room with
       |true=>some (.sl H.next 0 len i.size (some len),H.push (.cells cs))
       |false=>none
      |none=>none
     |false=>none
    |false=>none
   |none=>none
  |none=>none
 |_=>none
theorem ds_ {t:TypeId} {len:Nat} {parts:List (Nat×AV)} {vparts:Array (Nat×Value)} (hn:vparts.toList.map (·.1)=parts.map (·.1))
  (hL:ConL E (parts.map (·.2)) (vparts.toList.map (·.2))) {r:AV×AHeap} (h:bh_ P H t len parts=some r):
  ∃(e:TypeId) (sz:Nat) (cs:List AV) (arr:Array Value),H.room=true/\r=(.sl H.next 0 len sz (some len),H.push (.cells cs))/\arr.size=len*sz/\ConL E cs arr.toList/\
   ∀w:World,(Instr.buildSlice t len vparts).run P w=.ok (.slice (some ⟨w.heap.size,0,none⟩) len len) (w.alloc (.cells arr e)):=by
 unfold bh_ at h;split at h
 .rename_i e hd;split at h
  .rename_i i hi;split at h
   .rename_i z hz;split at h
    .rename_i hzl;split at h
     .rename_i hbig;split at h
      .rename_i cs hcs;split at h
       .rename_i hroom;cases h;have hzl':=Nat.eq_of_beq_eq_true hzl;have hbig':len*i.size<=16777216:=Nat.le_of_ble_eq_true hbig;have hzs:z.cells.size=i.size:=(by have:=(ba_ E z).length;rw [hzl']at this;simpa using this);have hbase:ConL E (aV_ (aF_ z) len) (((Array.range (len*i.size)).map (z.cells[· %z.cells.size]!)).toList):=by refine ConL.of_at ?_ λk x u hx hu=>?_;rw [aO_,hzl'];simp;have hk:k<len*i.size:=(by rcases Nat.lt_or_ge k (len*i.size)with h'|h';exact h';rw [List.getElem?_eq_none (by rw [aO_,hzl'];exact h')]at hx;cases hx);rw [eg_ _ _ _ (by rw [hzl'];exact hk),hzl']at hx;obtain ⟨u',hu',hcu⟩:=(ba_ E z).at _ _ hx;simp only [Array.toList_map,Array.toList_range,List.getElem?_map,List.getElem?_range hk,Option.map_some]at hu;cases hu;rw [hzs];have:z.cells[k%i.size]? =some u':=(by simpa using hu');rw [getElem!_def,this];exact hcu
        obtain ⟨arr',h1,h2⟩:=fe_ hcs hbase hn hL;have hlen:arr'.size=len*i.size:=by
         have:=h2.length;have hcl:cs.length=(aV_ (aF_ z) len).length:=by
          clear h1 h2 hL hn;revert hcs;generalize aV_ (aF_ z) len=l0;intro hcs
          induction parts generalizing l0 with
          |nil=>simp only [f7_]at hcs;cases hcs;rfl
          |cons p rest ih=>obtain ⟨a,b⟩:=p;simp only [f7_]at hcs;split at hcs;cases hcs;split at hcs;split at hcs;rename_i cells' cS_;rw [ih _ hcs];obtain ⟨s1,s2⟩:=dl_ _ cS_;rw [s2];simp only [List.length_append,List.length_take,List.length_drop];omega;cases hcs;cases hcs
         rw [hcl,aO_,hzl']at this;simpa using this
        refine ⟨e,i.size,cs,arr',hroom,rfl,hlen,h2,λw=>?_⟩;have hz0:(if len*i.size=0 then (pure #[]:Sem (Array Value))else do pure (←zeroValue e).cells).run P w=.ok (if len*i.size=0 then #[]else z.cells) w:=(by split;rfl;simp [zeroValue,typeInfo,hi,hz]);have hb2:¬(len*i.size>2^24):=(by omega);have e1:(λk=>some (k*i.size,i.size))=(λk=>some (Nat.mul k i.size,i.size)):=rfl;simp only [Instr.buildSlice,Sem.run_bind,run_underlying hd,Result.andThen_ok,ai_ hi,if_neg hb2,Sem.run_pure];by_cases h0:len*i.size=0;rw [if_pos h0];have ez:((Array.range (len*i.size)).map ((#[]:Array Value)[· %(#[]:Array Value).size]!))=((Array.range (len*i.size)).map (z.cells[· %z.cells.size]!)):=(by rw [h0];simp);simp only [Sem.run_bind,Sem.run_pure,Result.andThen_ok];rw [ez,e1,h1];simp [newRow];rw [if_neg h0];simp only [Sem.run_bind,Sem.run_pure,Result.andThen_ok,zeroValue,typeInfo,run_program,hi,hz];rw [e1,h1];simp [newRow]
       cases h
      cases h
     cases h
    cases h
   cases h
  cases h
 cases h
theorem gD_ (hr:Rel B pr E H w) {t:TypeId} {len:Nat} {parts:List (Nat×AV)} {vparts:Array (Nat×Value)} (hn:vparts.toList.map (·.1)=parts.map (·.1))
  (hL:ConL E (parts.map (·.2)) (vparts.toList.map (·.2))) {r:AV×AHeap} (h:bh_ P H t len parts=some r):Gives P B pr E w (Instr.buildSlice t len vparts) r:=by
 obtain ⟨e,sz,cs,arr,hroom,rfl,hlen,h2,hrun⟩:=ds_ hn hL h;have hne:eE_ H cs=some (.ptr H.next 0,H.push (.cells cs)):=by simp [eE_,hroom]
 obtain ⟨E',g1,g2,g3,g4,g5⟩:=gF_ hr e h2 hne;refine ⟨E',.slice (some ⟨w.heap.size,0,none⟩) len len,w.alloc (.cells arr e),hrun w,g1,g2,?_⟩;simp only [Con];exact ⟨w.heap.size,0,arr.size,len,0,g5,g3,rfl,λ_=>rfl,Nat.le_refl _,by rw [hlen];omega,λk hk=>by cases hk;rfl⟩
end
end Go.Sx
