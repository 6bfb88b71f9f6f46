/-
  The evaluator's operations that lay or write memory, and that the model's do the same.
-/
import Derived.Test.YtmgenobllanmjaaGreatDoorSxB
set_option linter.unusedVariables false
set_option linter.unusedSimpArgs false
namespace Go.Sx
section
variable {P:Program} {B:World} {pr:Nat->Prop} {E:Env} {H:AHeap} {w:World}
def eJ_ (H:AHeap) (cs:List AV):Option (AV×AHeap):=match H.room with
 |true=>some (.ptr H.next 0,H.push (.cells cs))
 |false=>none
theorem rg_ {cs:List AV} {arr:Array Value} (h:ConL E cs arr.toList):∀(i:Nat) (a:AV),cs[i]? =some a->∃v,arr[i]? =some v/\Con E a v:=λi a ha=>by
 obtain ⟨v,hv,hc⟩:=h.at i a ha
 grind
theorem gY_ (hr:Rel B pr E H w) {cs:List AV} {arr:Array Value} (t:TypeId) (hc:ConL E cs arr.toList) {r:AV×AHeap} (h:eJ_ H cs=some r):
  ∃E',E.le E'/\Rel B pr E' r.2 (w.alloc (.cells arr t))/\E'.sz w.heap.size=some arr.size/\r.1=.ptr H.next 0/\E'.φ H.next=some (w.heap.size,0):=by
 unfold eJ_ at h;split at h;rename_i hroom;cases h;obtain ⟨h1,h2⟩:=hr.new_cells hroom (cs:=cs) (arr:=arr) (t:=t) (by have:=hc.length;grind) (rg_ hc);exact ⟨_,h1,h2,by simp [Env.size],rfl,by simp [Env.size,Env.bind]⟩;cases h
theorem hG_ (hr:Rel B pr E H w) {cs:List AV} {arr:Array Value} {t:TypeId} (hc:ConL E cs arr.toList) {r:AV×AHeap} (h:eJ_ H cs=some r) {s:Sem Value}
  (hs:s.run P w=.ok (.pointer (some ⟨w.heap.size,0,none⟩)) (w.alloc (.cells arr t))):Gives P B pr E w s r:=by
 obtain ⟨E',h1,h2,h3,h4,h5⟩:=gY_ hr t hc h;exact ⟨E',_,_,hs,h1,h2,by rw [h4];simp only [Con];grind⟩
def fi_ (P:Program) (H:AHeap) (t:TypeId):Option (AV×AHeap):=match P.info? t with
 |some i=>match i.zero with
  |some z=>eJ_ H (at_ z)
  |none=>none
 |none=>none
theorem mx_ (hr:Rel B pr E H w) {t:TypeId} {r:AV×AHeap} (h:fi_ P H t=some r):Gives P B pr E w (Instr.alloc t true (.tuple #[])) r:=by unfold fi_ at h;split at h;rename_i i hi;split at h;rename_i z hz;refine hG_ hr (t:=t) (a8_ E z) h ?_;simp [Instr.alloc,zeroValue,typeInfo,hi,hz,newVar,newRow];cases h;cases h
def my_ (H:AHeap) (a:AV):Option (AV×AHeap):=match a with
 | .opq=>none
 |a=>eJ_ H a.cells
theorem qa_ (hr:Rel B pr E H w) {t:TypeId} {a:AV} {v:Value} (hc:Con E a v) {r:AV×AHeap} (h:my_ H a=some r):Gives P B pr E w (Instr.box t v) r:=by unfold my_ at h;split at h;cases h;rename_i hne;exact hG_ hr (t:=t) (hc.cells hne) h (by simp [Instr.box,newVar,newRow])
def dk_:Nat->List AV->List AV->Option (List AV)
 |0,[],cs=>some cs
 |0,_::_,[]=>none
 |0,x::xs,_::cs=>match dk_ 0 xs cs with
  |some r=>some (x::r)
  |none=>none
 |_+1,_,[]=>none
 |n+1,xs,c::cs=>match dk_ n xs cs with
  |some r=>some (c::r)
  |none=>none
theorem dl_:∀(cs:List AV) {n:Nat} {xs r:List AV},dk_ n xs cs=some r->n+xs.length<=cs.length/\r=cs.take n++xs++cs.drop (n+xs.length)
 |cs,0,[],r,h=>by grind [dk_]
 |[],0,x::xs,r,h=>by simp [dk_]at h
 |c::cs,0,x::xs,r,h=>by
  simp only [dk_]at h;split at h
  .rename_i r' hr';obtain ⟨h1,h2⟩:=dl_ cs hr'
   grind
  cases h
 |[],n+1,xs,r,h=>by simp [dk_]at h
 |c::cs,n+1,xs,r,h=>by
  simp only [dk_]at h;split at h
  .rename_i r' hr';obtain ⟨h1,h2⟩:=dl_ cs hr'
   grind
  cases h
theorem nk_ {cs:List AV} {n:Nat} {xs r:List AV} (h:dk_ n xs cs=some r) (i:Nat):
  r[i]? =if n<=i/\i<n+xs.length then xs[i-n]? else cs[i]? :=by
 obtain ⟨h1,h2⟩:=dl_ cs h;subst h2;by_cases ha:i<n
 .grind
 grind
theorem hn_ (l:List Value) (n:Nat) (xs:List Value) (hl:n+xs.length<=l.length) (i:Nat):
  (l.take n++xs++l.drop (n+xs.length))[i]? =if n<=i/\i<n+xs.length then xs[i-n]? else l[i]? :=by
 by_cases ha:i<n
 .grind
 grind
def bd_:List AV->Bool
 |[]=>true
 |a::r=>match a.one with
  |true=>bd_ r
  |false=>false
theorem gh_:∀{as:List AV} {vs:List Value},ConL E as vs->bd_ as=true->∀v∈vs,v.oneCell'=true
 |[],vs,h,_,v,hv=>by grind [ConL]
 |a::as,vs,h,ho,v,hv=>by
  obtain ⟨u,r,rfl,h2,h3⟩:=h;simp only [bd_]at ho;split at ho
  .rename_i hx;cases hv with
   |head=>exact h2.one hx
   |tail _ hm=>exact gh_ h3 ho v hm
  cases ho
theorem hr_ (hr:Rel B pr E H w) {id:Nat} {cs:List AV} (hk:H.get id=some (.cells cs)) {b o:Nat} (hφ:E.φ id=some (b,o)) {off:Nat} {xs:List AV} {vs:List Value} (hL:ConL E xs vs)
  (hone:bd_ xs=true) {cs':List AV} (cT_:dk_ off xs cs=some cs'):
  ∃w',(storeCells ⟨b,o+off,none⟩ vs 0).run P w=.ok () w'/\Rel B pr E (H.set id (.cells cs')) w':=by
 obtain ⟨arr,t,g1,g2,g3,g4⟩:=hr.blk hk hφ;obtain ⟨s1,s2⟩:=dl_ cs cT_;have hlen:=hL.length;have hst:=run_storeCells_at P b (o+off) t vs 0 arr w g1 (by omega) (gh_ hL hone);refine ⟨_,hst,?_⟩;refine hr.set_cells hk hφ g1 (arr':=(arr.toList.take (o+off)++vs++arr.toList.drop (o+off+vs.length)).toArray) ?_ (cs':=cs') ?_ ?_;simp;omega
 .grind
 .intro i a ha;rw [nk_ cT_]at ha;have hseg:=hn_ arr.toList (o+off) vs (by simp;omega) (o+i);rw [List.getElem?_toArray,hseg];split at ha
  .obtain ⟨v,hv,hc⟩:=hL.at _ _ ha
   grind
  grind
def ci_ (P:Program) (H:AHeap) (t:TypeId) (a v:AV):Option (AV×AHeap):=match P.info? t with
 |some i=>match a with
  | .ptr id off=>match v with
    | .opq=>none
    |v=>match Nat.beq v.cells.length i.size with
     |true=>match bd_ v.cells with
      |true=>match H.get id with
       |some (.cells cs)=>match dk_ off v.cells cs with
          |some cs'=>some (.tup [],H.set id (.cells cs'))
          |none=>none
       |_=>none
      |false=>none
     |false=>none
  |_=>none
 |none=>none
theorem hH_ (hr:Rel B pr E H w) {t:TypeId} {a x:AV} {v u:Value} (hc:Con E a v) (hx:Con E x u) {r:AV×AHeap} (h:ci_ P H t a x=some r):
  ∃w',(Instr.storeAt t v u).run P w=.ok () w'/\Rel B pr E r.2 w':=by
 unfold ci_ at h;split at h
 .rename_i i hi;split at h
  .split at h;cases h
   .rename_i hne;split at h
    .rename_i hlen;split at h
     .rename_i hone;split at h
      .rename_i cs hk;split at h
       .rename_i cs' cT_;cases h;obtain ⟨b,o,hφ,rfl⟩:=hc;have hL:=hx.cells hne;obtain ⟨w',h1,h2⟩:=hr_ (P:=P) hr hk hφ hL hone cT_;have hsz:u.cells.size=i.size:=by have:=hL.length;simp_all
        simp_all [Instr.storeAt,Instr.sureAddr,storeVar,af_]
       cases h
      cases h
     cases h
    cases h
  cases h
 cases h
def eX_ (P:Program):List Field->Option (List (Nat×Nat))
 |[]=>some []
 |f::r=>match P.info? f.type with
  |some i=>match eX_ P r with
   |some l=>some ((f.offset,i.size)::l)
   |none=>none
  |none=>none
theorem gE_:∀{fs:List Field} {l:List (Nat×Nat)},eX_ P fs=some l->∀w:World,(fs.mapM (m:=Sem) λf=>do pure (f.offset,←sizeOf f.type)).run P w=.ok l w
 |[],l,h,w=>by simp_all [eX_]
 |f::r,l,h,w=>by simp only [eX_]at h;split at h;rename_i i hi;split at h;rename_i l' hl';cases h;have ih:=gE_ hl' w;simp only [List.mapM_cons,Sem.run_bind,af_ hi,Result.andThen_ok,Sem.run_pure,ih];cases h;cases h
def hI_ (place:Nat->Option (Nat×Nat)):List AV->List (Nat×AV)->Option (List AV)
 |cells,[]=>some cells
 |cells,(i,v)::rest=>match place i with
  |none=>none
  |some (off,size)=>match v with
   | .opq=>none
   |v=>match Nat.beq v.cells.length size with
    |true=>match dk_ off v.cells cells with
     |some cells'=>hI_ place cells' rest
     |none=>none
    |false=>none
theorem rz_ (xs:List Value):∀(j off:Nat) (arr:Array Value),off+j+xs.length<=arr.size->
  ((xs.zipIdx j).foldl (λ(cs:Array Value) (p:Value×Nat)=>cs.setIfInBounds (off+p.2) p.1) arr).toList=arr.toList.take (off+j)++xs++arr.toList.drop (off+j+xs.length):=by
 induction xs with
 |nil=>simp_all
 |cons x xs ih=>
  intro j off arr h;simp only [List.length_cons]at h;simp only [List.zipIdx_cons,List.foldl_cons];rw [ih (j+1) off _ (by simp;omega)];apply List.ext_getElem?;intro i;have hs:(arr.setIfInBounds (off+j) x).toList.length=arr.size:=(by simp);have e1:=hn_ (arr.setIfInBounds (off+j) x).toList (off+(j+1)) xs (by grind) i;have e2:=hn_ arr.toList (off+j) (x::xs) (by omega) i;rw [e1];simp only [List.length_cons]at e2⊢;rw [e2];by_cases c1:i=off+j
  .subst c1;have:off+j<arr.size:=by omega
   grind
  .by_cases c2:off+(j+1)<=i/\i<off+(j+1)+xs.length;rw [if_pos c2,if_pos (by omega)];rw [show i-(off+j)=(i-(off+(j+1)))+1 by omega];simp
   .rw [if_neg c2,if_neg (by omega)]
    grind
theorem fo_ {place:Nat->Option (Nat×Nat)}:∀{parts:List (Nat×AV)} {vparts:List (Nat×Value)} {cells r:List AV} {arr:Array Value},hI_ place cells parts=some r->ConL E cells arr.toList->
  (vparts.map (·.1)=parts.map (·.1))->ConL E (parts.map (·.2)) (vparts.map (·.2))->∃arr',Instr.fill place arr vparts=some arr'/\ConL E r arr'.toList
 |[],vparts,cells,r,arr,h,hc,hn,hL=>by cases h;have:vparts=[]:=(by simpa using hn);subst this;exact ⟨arr,rfl,hc⟩
 |(i,a)::rest,vparts,cells,r,arr,h,hc,hn,hL=>by
  cases vparts with
  |nil=>simp at hn
  |cons p vrest=>
   obtain ⟨i',v⟩:=p;simp only [List.map_cons,List.cons.injEq]at hn;obtain ⟨rfl,hn⟩:=hn;simp only [List.map_cons,ConL]at hL;obtain ⟨v',r',he,hcv,hL'⟩:=hL;cases he;simp only [hI_]at h;split at h;cases h
   .rename_i off size hp;split at h;cases h
    .rename_i hne;split at h
     .rename_i hlen;split at h
      .rename_i cells' cT_;have hcc:=hcv.cells hne;have hvl:=hcc.length;rw [Nat.eq_of_beq_eq_true hlen]at hvl;obtain ⟨s1,s2⟩:=dl_ cells cT_;have hsz:v.cells.size=size:=(by grind);have hal:arr.size=cells.length:=(by have:=hc.length;grind);rw [Nat.eq_of_beq_eq_true hlen]at s1;have hfold:(v.cells.zipIdx.foldl (λcs (c,j)=>cs.setIfInBounds (off+j) c) arr).toList=arr.toList.take (off+0)++v.cells.toList++arr.toList.drop (off+0+v.cells.toList.length):=by rw [←rz_ v.cells.toList 0 off arr (by omega)];rw [←Array.foldl_toList];simp
       have:=fo_ (vparts:=vrest) h (arr:=v.cells.zipIdx.foldl (λcs (c,j)=>cs.setIfInBounds (off+j) c) arr) ?_ hn hL';simp_all [Instr.fill]
       .rw [hfold];refine ConL.of_at ?_ λk x u hx hu=>?_;simp_all
        .rw [nk_ cT_]at hx;rw [Nat.add_zero,hn_ _ _ _ (by simp;omega)]at hu;have hll:=hcc.length;split at hx
         .obtain ⟨u',hu',hcu⟩:=hcc.at _ _ hx
          grind
         .obtain ⟨u',hu',hcu⟩:=hc.at _ _ hx
          grind
      cases h
     cases h
def qy_:List (Nat×Nat)->Nat->Option (Nat×Nat)
 |[],_=>none
 |a::_,0=>some a
 |_::r,n+1=>qy_ r n
theorem px_:∀(l:List (Nat×Nat)) (n:Nat),qy_ l n=l[n]?
 |[],n=>by simp [qy_]
 |a::r,0=>rfl
 |a::r,n+1=>by simp [qy_,px_ r n]
def if_ (P:Program) (t:TypeId) (parts:List (Nat×AV)):Option AV:=match P.info? t with
 |some i=>match i.zero with
  |some z=>match P.underlying t with
   |some (.struct fields)=>match eX_ P fields.toList with
    |some pl=>match hI_ (qy_ pl) (at_ z) parts with
     |some cs=>some (.agg cs)
     |none=>none
    |none=>none
   |some (.array _ elem)=>match P.info? elem with
    |some ie=>match hI_ (λi=>some (Nat.mul i ie.size,ie.size)) (at_ z) parts with
     |some cs=>some (.agg cs)
     |none=>none
    |none=>none
   |_=>none
  |none=>none
 |none=>none
theorem mz_ (hr:Rel B pr E H w) {t:TypeId} {parts:List (Nat×AV)} {vparts:Array (Nat×Value)} (hn:vparts.toList.map (·.1)=parts.map (·.1))
  (hL:ConL E (parts.map (·.2)) (vparts.toList.map (·.2))) {r:AV} (h:if_ P t parts=some r):Gives P B pr E w (Instr.build t vparts) (r,H):=by
 unfold if_ at h;split at h
 .rename_i i hi;split at h
  .rename_i z hz;split at h
   .rename_i fields hd;split at h
    .rename_i pl hpl;split at h
     .rename_i cs hcs;cases h;obtain ⟨arr',h1,h2⟩:=fo_ hcs (a8_ E z) hn hL;have hpl':=gE_ hpl w;refine Gives.still hr (v:=.agg arr') ?_ (by grind [Con]);have hm:(fields.mapM (m:=Sem) λf=>do pure (f.offset,←sizeOf f.type)).run P w=.ok pl.toArray w:=by
       grind [Array.mapM_eq_mapM_toList,Sem.run_map,Result.andThen_ok]
      have e:(λx=>pl.toArray[x]?)=qy_ pl:=(by grind [px_]);simp_all [Instr.build,zeroValue,typeInfo,run_underlying]
     cases h
    cases h
   .rename_i n elem hd;split at h
    .rename_i ie hie;split at h;rename_i cs hcs;cases h;obtain ⟨arr',h1,h2⟩:=fo_ hcs (a8_ E z) hn hL;refine Gives.still hr (v:=.agg arr') ?_ (by grind [Con]);simp only [Instr.build,Sem.run_bind,zeroValue,typeInfo,run_program,Result.andThen_ok,hi,hz,Sem.run_pure,run_underlying hd,af_ hie];simp_all
     cases h
    cases h
   cases h
  cases h
 cases h
def ax_ (z:List AV):Nat->List AV
 |0=>[]
 |n+1=>z++ax_ z n
theorem aQ_ (z:List AV) (n:Nat):(ax_ z n).length=n*z.length:=by
 induction n<;>grind [ax_,Nat.succ_mul]
theorem el_ (z:List AV):∀(n i:Nat),i<n*z.length->(ax_ z n)[i]? =z[i%z.length]?
 |0,i,h=>by simp at h
 |n+1,i,h=>by simp only [ax_];by_cases hi:i<z.length;rw [List.getElem?_append_left hi,Nat.mod_eq_of_lt hi];rw [List.getElem?_append_right (by omega),el_ z n (i-z.length) (by rw [Nat.succ_mul]at h;omega)];rw [←Nat.mod_eq_sub_mod (by omega)]
def bz_ (P:Program) (H:AHeap) (t:TypeId) (len:Nat) (parts:List (Nat×AV)):Option (AV×AHeap):=match P.underlying t with
 |some (.slice e)=>match P.info? e with
  |some i=>match i.zero with
   |some z=>match Nat.beq (at_ z).length i.size with
    |true=>match Nat.ble (Nat.mul len i.size) 16777216 with
     |true=>match hI_ (λk=>some (Nat.mul k i.size,i.size)) (ax_ (at_ z) len) parts with
      |some cs=>match H.room with
       |true=>some (.sl H.next 0 len i.size (some len),H.push (.cells cs))
       |false=>none
      |none=>none
     |false=>none
    |false=>none
   |none=>none
  |none=>none
 |_=>none
theorem dx_ {t:TypeId} {len:Nat} {parts:List (Nat×AV)} {vparts:Array (Nat×Value)} (hn:vparts.toList.map (·.1)=parts.map (·.1))
  (hL:ConL E (parts.map (·.2)) (vparts.toList.map (·.2))) {r:AV×AHeap} (h:bz_ P H t len parts=some r):
  ∃(e:TypeId) (sz:Nat) (cs:List AV) (arr:Array Value),H.room=true/\r=(.sl H.next 0 len sz (some len),H.push (.cells cs))/\arr.size=len*sz/\ConL E cs arr.toList/\
   ∀w:World,(Instr.buildSlice t len vparts).run P w=.ok (.slice (some ⟨w.heap.size,0,none⟩) len len) (w.alloc (.cells arr e)):=by
 unfold bz_ at h;split at h
 .rename_i e hd;split at h
  .rename_i i hi;split at h
   .rename_i z hz;split at h
    .rename_i hzl;split at h
     .rename_i hbig;split at h
      .rename_i cs hcs;split at h
       .rename_i hroom;cases h;have hzl':=Nat.eq_of_beq_eq_true hzl;have hbig':len*i.size<=16777216:=Nat.le_of_ble_eq_true hbig;have hzs:z.cells.size=i.size:=(by have:=(a8_ E z).length;grind);have hbase:ConL E (ax_ (at_ z) len) (((Array.range (len*i.size)).map (z.cells[· %z.cells.size]!)).toList):=by
         refine ConL.of_at ?_ λk x u hx hu=>?_
         .grind [aQ_]
         .have hk:k<len*i.size:=by
            grind
          rw [el_ _ _ _ (by grind),hzl']at hx;obtain ⟨u',hu',hcu⟩:=(a8_ E z).at _ _ hx
          grind
        obtain ⟨arr',h1,h2⟩:=fo_ hcs hbase hn hL;have hlen:arr'.size=len*i.size:=by
         have:=h2.length;have hcl:cs.length=(ax_ (at_ z) len).length:=by
          clear h1 h2 hL hn;revert hcs;generalize ax_ (at_ z) len=l0;intro hcs
          induction parts generalizing l0 with
          |nil=>grind [hI_]
          |cons p rest ih=>
           simp only [hI_]at hcs;split at hcs;cases hcs
           .split at hcs
            .split at hcs
             .rename_i cells' cT_;obtain ⟨s1,s2⟩:=dl_ _ cT_
              grind
             cases hcs
            cases hcs
         grind [aQ_]
        refine ⟨e,i.size,cs,arr',hroom,rfl,hlen,h2,λw=>?_⟩;have hb2:¬(len*i.size>2^24):=(by omega);have e1:(λk=>some (k*i.size,i.size))=(λk=>some (Nat.mul k i.size,i.size)):=rfl;simp only [Instr.buildSlice,Sem.run_bind,run_underlying hd,Result.andThen_ok,af_ hi,if_neg hb2,Sem.run_pure];by_cases h0:len*i.size=0;rw [if_pos h0];have ez:((Array.range (len*i.size)).map ((#[]:Array Value)[· %(#[]:Array Value).size]!))=((Array.range (len*i.size)).map (z.cells[· %z.cells.size]!)):=(by rw [h0];simp);simp only [Sem.run_bind,Sem.run_pure,Result.andThen_ok];rw [ez,e1,h1];simp [newRow];simp_all [zeroValue,typeInfo,newRow]
       cases h
      cases h
     cases h
    cases h
   cases h
  cases h
 cases h
theorem gV_ (hr:Rel B pr E H w) {t:TypeId} {len:Nat} {parts:List (Nat×AV)} {vparts:Array (Nat×Value)} (hn:vparts.toList.map (·.1)=parts.map (·.1))
  (hL:ConL E (parts.map (·.2)) (vparts.toList.map (·.2))) {r:AV×AHeap} (h:bz_ P H t len parts=some r):Gives P B pr E w (Instr.buildSlice t len vparts) r:=by
 obtain ⟨e,sz,cs,arr,hroom,rfl,hlen,h2,hrun⟩:=dx_ hn hL h;have hne:eJ_ H cs=some (.ptr H.next 0,H.push (.cells cs)):=by simp [eJ_,hroom]
 obtain ⟨E',g1,g2,g3,g4,g5⟩:=gY_ hr e h2 hne;refine ⟨E',.slice (some ⟨w.heap.size,0,none⟩) len len,w.alloc (.cells arr e),hrun w,g1,g2,?_⟩;exact ⟨w.heap.size,0,arr.size,len,0,g5,g3,rfl,λ_=>rfl,Nat.le_refl _,by grind,λk hk=>by cases hk;rfl⟩
end
end Go.Sx
