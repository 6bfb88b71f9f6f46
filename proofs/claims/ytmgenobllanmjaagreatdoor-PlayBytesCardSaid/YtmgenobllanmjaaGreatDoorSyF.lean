/-
  The plain wrap with a further condition, the world's shape kept.
-/
import Derived.Handed
import Derived.SizedLaws
import Derived.ChangeSame
import Derived.WalkKit
import Derived.ProofKit
import Derived.Defers
import Derived.Recover
import Derived.Orders
set_option linter.unusedVariables false
set_option linter.unusedSimpArgs false
namespace Go.Sx
variable {H:Type} {enc:TypeId×Value->H}
theorem returns_and_shaped {a:Assume} {C:Checked} {os:Os} {f:FuncId} {fn:Func} {s:ChangeSpec} {conds:List PathCond} {apart fresh handsOn again:Bool} {X:World->Array Value->Prop}
  (hX:∀(w w':World) (args:Array Value),w.heap=w'.heap->X w args->X w' args)
  (own:ownKnob C.prog.godebug=none) (started:os.Started) (noInit:C.prog.inits.idxOf? f=none) (hfn:C.prog.funcs[f]? =some fn)
  (witness:∃(w:World) (tape:Tape) (i:Input),w.os=os/\(w.forCall tape i).Shaped C.prog/\i.vars=[]/\Input.okWide C.prog (w.forCall tape i) .any w.heap.size f i/\
    ((s.pre enc C.prog fn conds apart (w.forCall tape i).memory i.args/\X (w.forCall tape i).memory i.args)/\sizedMet enc C.prog fn (OpenSpec.ofChange s) apart (w.forCall tape i).memory i.args)/\a.holds C.prog (lone (Frame.enter C.prog f i.args .normal) [] (w.forCall tape i)))
  (contract:∀(W:World) (base:Nat) (args:Array Value) (ds gs:List (DataW H)) (before:List MemPlace),
    (∀(j:Nat) t v,fn.params[j]? =some t->args[j]? =some v->Value.okWide C.prog W .any base t v)->
    DataW.Whole enc C.prog fn.params.toList s.vars apart W args.toList ds gs before->
    X W args->W.ShapedOpen C.prog->
    Calls C.prog f args W λe W'=>∃v,e=.returned v/\s.post enc C.prog fn apart fresh handsOn again W args v W'):
  ReturnsInHanded a C os f .any (λw args=>(s.pre enc C.prog fn conds apart w args/\X w args)/\sizedMet enc C.prog fn (OpenSpec.ofChange s) apart w args) (s.post enc C.prog fn apart fresh handsOn again):=by
 refine returnsInHanded_of_calls own started noInit witness ?_;intro w tape i _ hsh _ hok hpre hholds;obtain ⟨_,_,_,fn',hfn',_,_,_,_,hval⟩:=hok;have e:fn'=fn:=Option.some.inj (hfn'.symm.trans hfn);subst e;obtain ⟨⟨⟨ds,gs,before,hw,hc⟩,hx⟩,hz⟩:=hpre;have hw':=DataW.Whole.of_heap (w':=w.forCall tape i) (by rfl) hw;refine (contract (w.forCall tape i) w.heap.size i.args ds gs before hval hw' (hX _ _ _ (by rfl) hx) hsh).mono λe W' ⟨v,he,hp⟩=>?_
 grind [ChangeSpec.post_blind]
theorem post_own {P:Program} {f:Func} {s:ChangeSpec} {apart fresh handsOn again:Bool} {W W':World} {args:Array Value} {v:Value} {ds gs:List (DataW H)} {before pa pv:List MemPlace}
  (hW:DataW.Whole enc P f.params.toList s.vars apart W args.toList ds gs before)
  (hres:∀(b:Nat) (sp:Nat->Bool) (hd:Bool),DataW.TrodAll enc P W' b sp hd f.resultTypes.toList (v.resultList f.resultTypes.size) (s.fn H (ds++gs)).results [])
  (hargs:∀sp:Nat->Bool,(∀p∈before,sp p.block=true)->DataW.TrodAll enc P W' 0 sp true f.params.toList args.toList (s.fn H (ds++gs)).args pa)
  (hvars:∀sp:Nat->Bool,(∀p∈before,sp p.block=true)->DataW.TrodVars enc P W' sp s.vars (s.fn H (ds++gs)).vars pv)
  (hps:before=pa++pv) (hk:W.keptBut W' (· ∈before)) (hfz:∀a,a.block<W.heap.size->W'.frozen? a=W.frozen? a)
  (hok:∀(j:Nat) (t:TypeId) (r:Value),f.resultTypes[j]? =some t->(v.resultList f.resultTypes.size)[j]? =some r->Value.okWide P W' .any 0 t r):
  s.post enc P f apart fresh handsOn again W args v W':=by
 have hlt:∀p∈pa++pv,p.block<W.heap.size:=λp hp=>hW.lt p (by grind);have hsp:∀p∈before,(λb=>decide (b<W.heap.size)) p.block=true:=λp hp=>decide_eq_true (hW.lt p hp);refine ⟨ds,gs,before,[],pa,pv,hW,hres _ _ _,hargs _ hsp,hvars _ hsp,World.keptBut_mono (λp hp=>⟨hp,Or.inr ?_⟩) hk,λ_=>⟨hok,_,_,([]++pa)++pv,⟨[]++pa,pv,ChangeShapes.trodAll_append (hargs _ (λ_ _=>rfl)) (hres _ _ _),hvars _ (λ_ _=>rfl),rfl,λb off hp=>?_,λha=>?_⟩,λp hp _=>?_⟩⟩
 .grind
 obtain ⟨_,_,_,_,_,hz,_⟩:=hW;rw [hfz _ (hlt _ hp)];exact hz b off (by grind)
 .obtain ⟨_,_,_,_,_,_,hn⟩:=hW
  grind
 grind
end Go.Sx
namespace Go.Sx
inductive AV where
 |opq
 |bool (b:Bool)
 |int (k:IntKind) (n:Int)
 |flt (k:FloatKind) (n:Nat)
 |nan (k:FloatKind)
 |str (s:List UInt8)
 |nptr
 |ptr (id off:Nat)
 |vptr (cs:List AV)
 |nsl
 |sl (id off len sz:Nat) (cap:Option Nat)
 |vsl (len sz:Nat) (cs:List AV)
 |nmap
 |map (id:Nat)
 |nfn
 |fn (f:FuncId) (cap:List AV)
 |nif
 |iface (t:TypeId) (v:AV)
 |agg (cs:List AV)
 |tup (cs:List AV)
 |sym (i:Nat)
 |slx (id sz i:Nat)
 |ptx (id j sz off:Nat)
 deriving Inhabited
inductive ABlk where
 |cells (cs:List AV)
 |map (es:List (AV×AV×Nat)) (clock:Nat)
 |syl (i:Nat)
 |fz (cs:List AV)
 |mpl (i:Nat)
 deriving Inhabited
structure Q8 (α:Type) where
 (a b c d e f g h:α)
namespace Q8
variable {α:Type}
inductive AtC (α:Type) where
 |mk (f:Q8 α->α)
def atc (α:Type) (i:Nat):AtC α:=match i with
 |0=>.mk λq=>Q8.casesOn q λa b c d e f g h=>a
 |1=>.mk λq=>Q8.casesOn q λa b c d e f g h=>b
 |2=>.mk λq=>Q8.casesOn q λa b c d e f g h=>c
 |3=>.mk λq=>Q8.casesOn q λa b c d e f g h=>d
 |4=>.mk λq=>Q8.casesOn q λa b c d e f g h=>e
 |5=>.mk λq=>Q8.casesOn q λa b c d e f g h=>f
 |6=>.mk λq=>Q8.casesOn q λa b c d e f g h=>g
 |_=>.mk λq=>Q8.casesOn q λa b c d e f g h=>h
inductive UpC (α:Type) where
 |mk (f:Q8 α->(α->α)->Q8 α)
def upc (α:Type) (i:Nat):UpC α:=match i with
 |0=>.mk λq u=>Q8.casesOn q λa b c d e f g h=>⟨u a,b,c,d,e,f,g,h⟩
 |1=>.mk λq u=>Q8.casesOn q λa b c d e f g h=>⟨a,u b,c,d,e,f,g,h⟩
 |2=>.mk λq u=>Q8.casesOn q λa b c d e f g h=>⟨a,b,u c,d,e,f,g,h⟩
 |3=>.mk λq u=>Q8.casesOn q λa b c d e f g h=>⟨a,b,c,u d,e,f,g,h⟩
 |4=>.mk λq u=>Q8.casesOn q λa b c d e f g h=>⟨a,b,c,d,u e,f,g,h⟩
 |5=>.mk λq u=>Q8.casesOn q λa b c d e f g h=>⟨a,b,c,d,e,u f,g,h⟩
 |6=>.mk λq u=>Q8.casesOn q λa b c d e f g h=>⟨a,b,c,d,e,f,u g,h⟩
 |_=>.mk λq u=>Q8.casesOn q λa b c d e f g h=>⟨a,b,c,d,e,f,g,u h⟩
def at8 (i:Nat) (q:Q8 α):α:=match atc α i with
 | .mk f=>f q
def up8 (i:Nat) (q:Q8 α) (u:α->α):Q8 α:=match upc α i with
 | .mk f=>f q u
def all (x:α):Q8 α:=⟨x,x,x,x,x,x,x,x⟩
theorem sm_ {i:Nat} (h:i<8):i=0\/i=1\/i=2\/i=3\/i=4\/i=5\/i=6\/i=7:=by omega
theorem at_up_same (q:Q8 α) {i:Nat} (h:i<8) (u:α->α):at8 i (up8 i q u)=u (at8 i q):=by rcases sm_ h with rfl|rfl|rfl|rfl|rfl|rfl|rfl|rfl<;>rfl
theorem at_up_ne (q:Q8 α) {i j:Nat} (h:i<8) (h':j<8) (hne:i≠j) (u:α->α):at8 j (up8 i q u)=at8 j q:=by rcases sm_ h with rfl|rfl|rfl|rfl|rfl|rfl|rfl|rfl<;>rcases sm_ h' with rfl|rfl|rfl|rfl|rfl|rfl|rfl|rfl<;>first|(exact absurd rfl hne)|rfl
theorem at_all (x:α) (i:Nat):at8 i (all x)=x:=by
 unfold at8 atc all;repeat' split
 grind
end Q8
abbrev HT:=Q8 (Q8 (Q8 (Q8 (Q8 (Option ABlk)))))
def top:Nat:=32768
def cr_ (t:HT) (k:Nat):Option ABlk:=
 Q8.at8 (Nat.mod k 8) (Q8.at8 (Nat.mod (Nat.div k 8) 8) (Q8.at8 (Nat.mod (Nat.div k 64) 8) (Q8.at8 (Nat.mod (Nat.div k 512) 8) (Q8.at8 (Nat.div k 4096) t))))
def cT_ (t:HT) (k:Nat) (x:Option ABlk):HT:=
 Q8.up8 (Nat.div k 4096) t λt=>Q8.up8 (Nat.mod (Nat.div k 512) 8) t λt=>Q8.up8 (Nat.mod (Nat.div k 64) 8) t λt=>Q8.up8 (Nat.mod (Nat.div k 8) 8) t λt=>Q8.up8 (Nat.mod k 8) t λ_=>x
def hnil:HT:=Q8.all (Q8.all (Q8.all (Q8.all (Q8.all none))))
theorem cQ_ (k n:Nat):Nat.mod (Nat.div k n) 8<8:=Nat.mod_lt _ (by omega)
theorem gl_ (k:Nat):Nat.mod k 8<8:=Nat.mod_lt _ (by omega)
theorem df_ (t:HT) {k:Nat} (h:k<top) (x:Option ABlk):cr_ (cT_ t k x) k=x:=by
 have h4:Nat.div k 4096<8:=by show k/4096<8;grind [top]
 grind [cr_,cT_,Q8.at_up_same,cQ_,gl_]
theorem ee_ (t:HT) {k j:Nat} (h:k<top) (h':j<top) (hne:k≠j) (x:Option ABlk):cr_ (cT_ t k x) j=cr_ t j:=by
 have h4:Nat.div k 4096<8:=by show k/4096<8;unfold top at h;omega
 have h4':Nat.div j 4096<8:=by show j/4096<8;unfold top at h';omega
 unfold cr_ cT_;by_cases e4:Nat.div k 4096=Nat.div j 4096;rw [←e4,Q8.at_up_same _ h4];by_cases e3:Nat.mod (Nat.div k 512) 8=Nat.mod (Nat.div j 512) 8;rw [←e3,Q8.at_up_same _ (cQ_ _ _)];by_cases e2:Nat.mod (Nat.div k 64) 8=Nat.mod (Nat.div j 64) 8;rw [←e2,Q8.at_up_same _ (cQ_ _ _)];by_cases e1:Nat.mod (Nat.div k 8) 8=Nat.mod (Nat.div j 8) 8;rw [←e1,Q8.at_up_same _ (cQ_ _ _)];by_cases e0:Nat.mod k 8=Nat.mod j 8;exfalso;have e4:k/4096=j/4096:=e4;have e3:k/512%8=j/512%8:=e3;have e2:k/64%8=j/64%8:=e2;have e1:k/8%8=j/8%8:=e1;have e0:k%8=j%8:=e0;omega;rw [Q8.at_up_ne _ (gl_ _) (gl_ _) e0];rw [Q8.at_up_ne _ (cQ_ _ _) (cQ_ _ _) e1];rw [Q8.at_up_ne _ (cQ_ _ _) (cQ_ _ _) e2];rw [Q8.at_up_ne _ (cQ_ _ _) (cQ_ _ _) e3];rw [Q8.at_up_ne _ h4 h4' e4]
theorem c5_ (k:Nat):cr_ hnil k=none:=by unfold cr_ hnil;rw [Q8.at_all,Q8.at_all,Q8.at_all,Q8.at_all,Q8.at_all]
structure AHeap where
 tr:HT
 next:Nat
 hi:Nat
namespace AHeap
def get (H:AHeap) (id:Nat):Option ABlk:=match Nat.blt id top with
 |true=>cr_ H.tr id
 |false=>none
def set (H:AHeap) (id:Nat) (b:ABlk):AHeap:=⟨cT_ H.tr id (some b),H.next,H.hi⟩
def erase (H:AHeap) (id:Nat):AHeap:=⟨match Nat.blt id top with
 |true=>cT_ H.tr id none
 |false=>H.tr,H.next,H.hi⟩
def push (H:AHeap) (b:ABlk):AHeap:=⟨cT_ H.tr H.next (some b),Nat.succ H.next,H.hi⟩
def room (H:AHeap):Bool:=Nat.blt H.next H.hi&&Nat.ble H.hi top
theorem get_lt {H:AHeap} {id:Nat} {b:ABlk} (h:H.get id=some b):id<top:=by
 unfold get at h;cases hb:Nat.blt id top with
 |true=>simpa [Nat.blt_eq]using hb
 |false=>simp [hb]at h
theorem get_of_lt {H:AHeap} {id:Nat} (h:id<top):H.get id=cr_ H.tr id:=by
 unfold get;have:Nat.blt id top=true:=by simpa [Nat.blt_eq]using h
 rw [this]
theorem kp_ {id:Nat} (h:¬id<top):Nat.blt id top=false:=by
 cases hb:Nat.blt id top with
 |true=>exact absurd (by simpa [Nat.blt_eq]using hb) h
 |false=>rfl
theorem get_of_ge {H:AHeap} {id:Nat} (h:¬id<top):H.get id=none:=by unfold get;rw [kp_ h]
theorem get_set_same (H:AHeap) {id:Nat} (h:id<top) (b:ABlk):(H.set id b).get id=some b:=by rw [get_of_lt h];exact df_ _ h _
theorem get_set_ne (H:AHeap) {id j:Nat} (h:id<top) (hne:id≠j) (b:ABlk):(H.set id b).get j=H.get j:=by by_cases hj:j<top;rw [get_of_lt hj,get_of_lt hj];exact ee_ _ h hj hne _;rw [get_of_ge hj,get_of_ge hj]
theorem get_erase_same (H:AHeap) {id:Nat}:(H.erase id).get id=none:=by by_cases h:id<top;have hb:Nat.blt id top=true:=(by simpa [Nat.blt_eq]using h);rw [get_of_lt h];unfold erase;simp only [hb];exact df_ _ h _;rw [get_of_ge h]
theorem get_erase_ne (H:AHeap) {id j:Nat} (hne:id≠j):(H.erase id).get j=H.get j:=by by_cases h:id<top;have hb:Nat.blt id top=true:=(by simpa [Nat.blt_eq]using h);by_cases hj:j<top;rw [get_of_lt hj,get_of_lt hj];unfold erase;simp only [hb];exact ee_ _ h hj hne _;rw [get_of_ge hj,get_of_ge hj];unfold erase;simp only [kp_ h]
theorem get_push_same (H:AHeap) (h:H.next<top) (b:ABlk):(H.push b).get H.next=some b:=by rw [get_of_lt h];exact df_ _ h _
theorem get_push_ne (H:AHeap) (h:H.next<top) {j:Nat} (hne:H.next≠j) (b:ABlk):(H.push b).get j=H.get j:=by by_cases hj:j<top;rw [get_of_lt hj,get_of_lt hj];exact ee_ _ h hj hne _;rw [get_of_ge hj,get_of_ge hj]
end AHeap
structure Env where
 φ:Nat->Option (Nat×Nat)
 sz:Nat->Option Nat
 imm:Nat->Nat->Option Value
 res:Nat->Prop
 bim:Nat->Nat->Option Value
 sy:Nat->Option AV
 syl:Nat->Option (List AV)
 vd:Nat->Prop
def Env.sub (E E':Env):Prop:=
 (∀i x,E.φ i=some x->E'.φ i=some x)/\(∀b n,E.sz b=some n->E'.sz b=some n)/\(∀b o v,E.imm b o=some v->E'.imm b o=some v)/\E'.sy=E.sy/\E'.syl=E.syl
def Env.le (E E':Env):Prop:=E.sub E'/\E'.res=E.res/\E'.bim=E.bim/\E'.vd=E.vd
theorem Env.sub_refl (E:Env):E.sub E:=⟨λ_ _ h=>h,λ_ _ h=>h,λ_ _ _ h=>h,rfl,rfl⟩
theorem Env.sub_trans {E E' E'':Env} (h:E.sub E') (h':E'.sub E''):E.sub E'':=
 ⟨λi x hx=>h'.1 _ _ (h.1 i x hx),λb n hx=>h'.2.1 _ _ (h.2.1 b n hx),λb o v hx=>h'.2.2.1 _ _ _ (h.2.2.1 b o v hx),h'.2.2.2.1.trans h.2.2.2.1,h'.2.2.2.2.trans h.2.2.2.2⟩
theorem Env.le_refl (E:Env):E.le E:=⟨E.sub_refl,rfl,rfl,rfl⟩
theorem Env.le_trans {E E' E'':Env} (h:E.le E') (h':E'.le E''):E.le E'':=⟨Env.sub_trans h.1 h'.1,h'.2.1.trans h.2.1,h'.2.2.1.trans h.2.2.1,h'.2.2.2.trans h.2.2.2⟩
def ImmAt (E:Env) (b o:Nat) (vs:List Value):Prop:=∀(i:Nat) (v:Value),vs[i]? =some v->E.imm b (o+i)=some v
theorem ImmAt.sub {E E':Env} (h:E.sub E') {b o:Nat} {vs:List Value} (hi:ImmAt E b o vs):ImmAt E' b o vs:=
 λi v hv=>h.2.2.1 _ _ _ (hi i v hv)
def AV.one:AV->Bool
 | .agg _| .tup _| .opq=>false
 |_=>true
def SlA (v:Value) (b o len c:Nat):Prop:=v=.slice (some ⟨b,o,none⟩) len c\/(len=0/\∃a:Addr,v=.slice (some a) 0 c)
theorem SlA.sl {v:Value} {b o len c:Nat} (h:SlA v b o len c):∃a,v=.slice (some a) len c:=by rcases h with h|⟨rfl,a,h⟩;exact ⟨_,h⟩;exact ⟨a,h⟩
mutual
def Con0 (E:Env):AV->Value->Prop
 | .opq,_=>False
 | .bool b,v=>v=.bool b
 | .int k n,v=>v=.int k n
 | .flt k n,v=>v=.float k n
 | .nan k,v=>∃b,v=.float k b/\(k.format.read b).isNaN=true
 | .str s,v=>v=.string ⟨⟨s⟩⟩
 | .nptr,v=>v=.pointer none
 | .ptr _ _,_=>False
 | .vptr cs,v=>∃b o vs,v=.pointer (some ⟨b,o,none⟩)/\Con0L E cs vs/\ImmAt E b o vs
 | .nsl,v=>v=.slice none 0 0
 | .sl _ _ _ _ _,_=>False
 | .vsl len _ cs,v=>∃b o vs c,SlA v b o len c/\len<=c/\Con0L E cs vs/\ImmAt E b o vs
 | .nmap,v=>v=.map none
 | .map _,_=>False
 | .nfn,v=>v=.nilFunc
 | .fn f cap,v=>∃vs,v=.func (.func f) #[] ⟨vs⟩/\Con0L E cap vs
 | .nif,v=>v=.nilIface
 | .iface t a,v=>∃u,v=.iface t u/\Con0 E a u
 | .agg cs,v=>∃vs,v=.agg ⟨vs⟩/\Con0L E cs vs
 | .tup cs,v=>∃vs,v=.tuple ⟨vs⟩/\Con0L E cs vs
 | .sym _,_=>False
 | .slx _ _ _,_=>False
 | .ptx _ _ _ _,_=>False
def Con0L (E:Env):List AV->List Value->Prop
 |[],vs=>vs=[]
 |a::as,vs=>∃v r,vs=v::r/\Con0 E a v/\Con0L E as r
end
mutual
def Con (E:Env):AV->Value->Prop
 | .opq,_=>True
 | .bool b,v=>v=.bool b
 | .int k n,v=>v=.int k n
 | .flt k n,v=>v=.float k n
 | .nan k,v=>∃b,v=.float k b/\(k.format.read b).isNaN=true
 | .str s,v=>v=.string ⟨⟨s⟩⟩
 | .nptr,v=>v=.pointer none
 | .ptr id off,v=>∃b o,E.φ id=some (b,o)/\v=.pointer (some ⟨b,o+off,none⟩)
 | .vptr cs,v=>∃b o vs,v=.pointer (some ⟨b,o,none⟩)/\ConL E cs vs/\ImmAt E b o vs
 | .nsl,v=>v=.slice none 0 0
 | .sl id off len sz cap,v=>∃b o n c off',E.φ id=some (b,o)/\E.sz b=some n/\v=.slice (some ⟨b,o+off',none⟩) len c/\(c≠0->off'=off)/\
    len<=c/\o+off+c*sz<=n/\∀k,cap=some k->c=k
 | .vsl len _ cs,v=>∃b o vs c,SlA v b o len c/\len<=c/\ConL E cs vs/\ImmAt E b o vs
 | .nmap,v=>v=.map none
 | .map id,v=>∃b,E.φ id=some (b,0)/\v=.map (some b)
 | .nfn,v=>v=.nilFunc
 | .fn f cap,v=>∃vs,v=.func (.func f) #[] ⟨vs⟩/\ConL E cap vs
 | .nif,v=>v=.nilIface
 | .iface t a,v=>∃u,v=.iface t u/\Con E a u
 | .agg cs,v=>∃vs,v=.agg ⟨vs⟩/\ConL E cs vs
 | .tup cs,v=>∃vs,v=.tuple ⟨vs⟩/\ConL E cs vs
 | .sym i,v=>∃a,E.sy i=some a/\a.one=true/\Con0 E a v
 | .slx id sz i,v=>∃a,E.sy i=some a/\((a=.nsl/\v=.slice none 0 0)\/∃len cs,a=.vsl len sz cs/\∃b o n c off',E.φ id=some (b,o)/\E.sz b=some n/\v=.slice (some ⟨b,o+off',none⟩) len c/\(c≠0->off'=0)/\
    len<=c/\o+c*sz<=n)
 | .ptx id j sz off,v=>∃k n,E.sy j=some (.int k (.ofNat n))/\∃b o,E.φ id=some (b,o)/\v=.pointer (some ⟨b,o+(n*sz+off),none⟩)
def ConL (E:Env):List AV->List Value->Prop
 |[],vs=>vs=[]
 |a::as,vs=>∃v r,vs=v::r/\Con E a v/\ConL E as r
end
mutual
theorem Con0.sub {E E':Env} (h:E.sub E'):∀{a:AV} {v:Value},Con0 E a v->Con0 E' a v
 | .opq,_,hc=>by simp [Con0]at hc
 | .bool _,_,hc=>by simpa [Con0]using hc
 | .int _ _,_,hc=>by simpa [Con0]using hc
 | .flt _ _,_,hc=>by simpa [Con0]using hc
 | .nan _,_,hc=>by simpa [Con0]using hc
 | .str _,_,hc=>by simpa [Con0]using hc
 | .nptr,_,hc=>by simpa [Con0]using hc
 | .ptr id off,v,hc=>by simp [Con0]at hc
 | .vptr cs,v,hc=>by simp only [Con0]at hc⊢;obtain ⟨b,o,vs,h1,h2,h3⟩:=hc;exact ⟨b,o,vs,h1,Con0L.sub h h2,h3.sub h⟩
 | .nsl,_,hc=>by simpa [Con0]using hc
 | .sl ..,v,hc=>by simp [Con0]at hc
 | .vsl ..,v,hc=>by simp only [Con0]at hc⊢;obtain ⟨b,o,vs,c,h1,h2,h3,h4⟩:=hc;exact ⟨b,o,vs,c,h1,h2,Con0L.sub h h3,h4.sub h⟩
 | .nmap,_,hc=>by simpa [Con0]using hc
 | .map id,v,hc=>by simp [Con0]at hc
 | .nfn,_,hc=>by simpa [Con0]using hc
 | .fn f cap,v,hc=>by simp only [Con0]at hc⊢;obtain ⟨vs,h1,h2⟩:=hc;exact ⟨vs,h1,Con0L.sub h h2⟩
 | .nif,_,hc=>by simpa [Con0]using hc
 | .iface t a,v,hc=>by simp only [Con0]at hc⊢;obtain ⟨u,h1,h2⟩:=hc;exact ⟨u,h1,Con0.sub h h2⟩
 | .agg cs,v,hc=>by simp only [Con0]at hc⊢;obtain ⟨vs,h1,h2⟩:=hc;exact ⟨vs,h1,Con0L.sub h h2⟩
 | .tup cs,v,hc=>by simp only [Con0]at hc⊢;obtain ⟨vs,h1,h2⟩:=hc;exact ⟨vs,h1,Con0L.sub h h2⟩
 | .sym _,_,hc=>by simp [Con0]at hc
 | .slx ..,_,hc=>by simp [Con0]at hc
 | .ptx ..,_,hc=>by simp [Con0]at hc
theorem Con0L.sub {E E':Env} (h:E.sub E'):∀{as:List AV} {vs:List Value},Con0L E as vs->Con0L E' as vs
 |[],_,hc=>by simpa [Con0L]using hc
 |a::as,vs,hc=>by simp only [Con0L]at hc⊢;obtain ⟨v,r,h1,h2,h3⟩:=hc;exact ⟨v,r,h1,Con0.sub h h2,Con0L.sub h h3⟩
end
mutual
theorem Con0.con {E:Env}:∀{a:AV} {v:Value},Con0 E a v->Con E a v
 | .opq,_,hc=>by simp [Con0]at hc
 | .bool _,_,hc=>by simpa [Con0,Con]using hc
 | .int _ _,_,hc=>by simpa [Con0,Con]using hc
 | .flt _ _,_,hc=>by simpa [Con0,Con]using hc
 | .nan _,_,hc=>by simpa [Con0,Con]using hc
 | .str _,_,hc=>by simpa [Con0,Con]using hc
 | .nptr,_,hc=>by simpa [Con0,Con]using hc
 | .ptr id off,v,hc=>by simp [Con0]at hc
 | .vptr cs,v,hc=>by simp only [Con0]at hc;simp only [Con];obtain ⟨b,o,vs,h1,h2,h3⟩:=hc;exact ⟨b,o,vs,h1,Con0L.con h2,h3⟩
 | .nsl,_,hc=>by simpa [Con0,Con]using hc
 | .sl ..,v,hc=>by simp [Con0]at hc
 | .vsl ..,v,hc=>by simp only [Con0]at hc;simp only [Con];obtain ⟨b,o,vs,c,h1,h2,h3,h4⟩:=hc;exact ⟨b,o,vs,c,h1,h2,Con0L.con h3,h4⟩
 | .nmap,_,hc=>by simpa [Con0,Con]using hc
 | .map id,v,hc=>by simp [Con0]at hc
 | .nfn,_,hc=>by simpa [Con0,Con]using hc
 | .fn f cap,v,hc=>by simp only [Con0]at hc;simp only [Con];obtain ⟨vs,h1,h2⟩:=hc;exact ⟨vs,h1,Con0L.con h2⟩
 | .nif,_,hc=>by simpa [Con0,Con]using hc
 | .iface t a,v,hc=>by simp only [Con0]at hc;simp only [Con];obtain ⟨u,h1,h2⟩:=hc;exact ⟨u,h1,Con0.con h2⟩
 | .agg cs,v,hc=>by simp only [Con0]at hc;simp only [Con];obtain ⟨vs,h1,h2⟩:=hc;exact ⟨vs,h1,Con0L.con h2⟩
 | .tup cs,v,hc=>by simp only [Con0]at hc;simp only [Con];obtain ⟨vs,h1,h2⟩:=hc;exact ⟨vs,h1,Con0L.con h2⟩
 | .sym _,_,hc=>by simp [Con0]at hc
 | .slx ..,_,hc=>by simp [Con0]at hc
 | .ptx ..,_,hc=>by simp [Con0]at hc
theorem Con0L.con {E:Env}:∀{as:List AV} {vs:List Value},Con0L E as vs->ConL E as vs
 |[],_,hc=>by simpa [Con0L,ConL]using hc
 |a::as,vs,hc=>by simp only [Con0L]at hc;simp only [ConL];obtain ⟨v,r,h1,h2,h3⟩:=hc;exact ⟨v,r,h1,Con0.con h2,Con0L.con h3⟩
end
mutual
theorem Con.sub {E E':Env} (h:E.sub E'):∀{a:AV} {v:Value},Con E a v->Con E' a v
 | .opq,_,_=>by simp [Con]
 | .bool _,_,hc=>by simpa [Con]using hc
 | .int _ _,_,hc=>by simpa [Con]using hc
 | .flt _ _,_,hc=>by simpa [Con]using hc
 | .nan _,_,hc=>by simpa [Con]using hc
 | .str _,_,hc=>by simpa [Con]using hc
 | .nptr,_,hc=>by simpa [Con]using hc
 | .ptr id off,v,hc=>by simp only [Con]at hc⊢;obtain ⟨b,o,h1,h2⟩:=hc;exact ⟨b,o,h.1 _ _ h1,h2⟩
 | .vptr cs,v,hc=>by simp only [Con]at hc⊢;obtain ⟨b,o,vs,h1,h2,h3⟩:=hc;exact ⟨b,o,vs,h1,ConL.sub h h2,h3.sub h⟩
 | .nsl,_,hc=>by simpa [Con]using hc
 | .sl ..,v,hc=>by simp only [Con]at hc⊢;obtain ⟨b,o,n,c,off',h1,h2,h3⟩:=hc;exact ⟨b,o,n,c,off',h.1 _ _ h1,h.2.1 _ _ h2,h3⟩
 | .vsl ..,v,hc=>by simp only [Con]at hc⊢;obtain ⟨b,o,vs,c,h1,h2,h3,h4⟩:=hc;exact ⟨b,o,vs,c,h1,h2,ConL.sub h h3,h4.sub h⟩
 | .nmap,_,hc=>by simpa [Con]using hc
 | .map id,v,hc=>by simp only [Con]at hc⊢;obtain ⟨b,h1,h2⟩:=hc;exact ⟨b,h.1 _ _ h1,h2⟩
 | .nfn,_,hc=>by simpa [Con]using hc
 | .fn f cap,v,hc=>by simp only [Con]at hc⊢;obtain ⟨vs,h1,h2⟩:=hc;exact ⟨vs,h1,ConL.sub h h2⟩
 | .nif,_,hc=>by simpa [Con]using hc
 | .iface t a,v,hc=>by simp only [Con]at hc⊢;obtain ⟨u,h1,h2⟩:=hc;exact ⟨u,h1,Con.sub h h2⟩
 | .agg cs,v,hc=>by simp only [Con]at hc⊢;obtain ⟨vs,h1,h2⟩:=hc;exact ⟨vs,h1,ConL.sub h h2⟩
 | .tup cs,v,hc=>by simp only [Con]at hc⊢;obtain ⟨vs,h1,h2⟩:=hc;exact ⟨vs,h1,ConL.sub h h2⟩
 | .sym i,v,hc=>by simp only [Con]at hc⊢;obtain ⟨a,h1,h2,h3⟩:=hc;exact ⟨a,by rw [h.2.2.2.1];exact h1,h2,Con0.sub h h3⟩
 | .slx id sz i,v,hc=>by simp only [Con]at hc⊢;obtain ⟨a,h0,hc⟩:=hc;refine ⟨a,by rw [h.2.2.2.1];exact h0,hc.imp_right λ⟨len,cs,e,b,o,n,c,off',h1,h2,h3⟩=>⟨len,cs,e,b,o,n,c,off',h.1 _ _ h1,h.2.1 _ _ h2,h3⟩⟩
 | .ptx id j sz off,v,hc=>by simp only [Con]at hc⊢;obtain ⟨k,n,h0,b,o,h1,h2⟩:=hc;exact ⟨k,n,by rw [h.2.2.2.1];exact h0,b,o,h.1 _ _ h1,h2⟩
theorem ConL.sub {E E':Env} (h:E.sub E'):∀{as:List AV} {vs:List Value},ConL E as vs->ConL E' as vs
 |[],_,hc=>by simpa [ConL]using hc
 |a::as,vs,hc=>by simp only [ConL]at hc⊢;obtain ⟨v,r,h1,h2,h3⟩:=hc;exact ⟨v,r,h1,Con.sub h h2,ConL.sub h h3⟩
end
theorem Con.mono {E E':Env} (h:E.le E') {a:AV} {v:Value} (hc:Con E a v):Con E' a v:=Con.sub h.1 hc
theorem ConL.mono {E E':Env} (h:E.le E') {as:List AV} {vs:List Value} (hc:ConL E as vs):ConL E' as vs:=ConL.sub h.1 hc
theorem ImmAt.mono {E E':Env} (h:E.le E') {b o:Nat} {vs:List Value} (hi:ImmAt E b o vs):ImmAt E' b o vs:=ImmAt.sub h.1 hi
theorem ConL.length {E:Env}:∀{as:List AV} {vs:List Value},ConL E as vs->vs.length=as.length
 |[],_,h=>by simp only [ConL]at h;subst h;rfl
 |a::as,vs,h=>by simp only [ConL]at h;obtain ⟨v,r,rfl,_,h3⟩:=h;simp [h3.length]
theorem ConL.at {E:Env}:∀{as:List AV} {vs:List Value},ConL E as vs->∀(i:Nat) (a:AV),as[i]? =some a->∃v,vs[i]? =some v/\Con E a v
 |[],_,_,i,a,hi=>by simp at hi
 |a::as,vs,h,i,x,hi=>by
  simp only [ConL]at h;obtain ⟨v,r,rfl,h2,h3⟩:=h;cases i with
  |zero=>simp at hi;subst hi;exact ⟨v,rfl,h2⟩
  |succ i=>simpa using h3.at i x (by simpa using hi)
theorem ConL.of_at {E:Env}:∀{as:List AV} {vs:List Value},vs.length=as.length->(∀(i:Nat) (a:AV) (v:Value),as[i]? =some a->vs[i]? =some v->Con E a v)->ConL E as vs
 |[],vs,hl,_=>by simp only [ConL];exact List.eq_nil_of_length_eq_zero (by simpa using hl)
 |a::as,vs,hl,h=>by
  cases vs with
  |nil=>simp at hl
  |cons v r=>simp only [ConL];exact ⟨v,r,rfl,h 0 a v rfl rfl,ConL.of_at (by simpa using hl) (λi a v h1 h2=>h (i+1) a v (by simpa using h1) (by simpa using h2))⟩
theorem ConL.append {E:Env}:∀{as:List AV} {vs:List Value} {bs:List AV} {us:List Value},ConL E as vs->ConL E bs us->ConL E (as++bs) (vs++us)
 |[],_,_,_,h,h'=>by simp only [ConL]at h;subst h;simpa using h'
 |a::as,vs,bs,us,h,h'=>by simp only [ConL]at h;obtain ⟨v,r,rfl,h2,h3⟩:=h;simp only [List.cons_append,ConL];exact ⟨v,_,rfl,h2,h3.append h'⟩
theorem ConL.drop {E:Env} {as:List AV} {vs:List Value} (h:ConL E as vs) (n:Nat):ConL E (as.drop n) (vs.drop n):=by refine ConL.of_at (by simp [h.length]) λi a v h1 h2=>?_;simp only [List.getElem?_drop]at h1 h2;obtain ⟨v',h3,h4⟩:=h.at _ _ h1;rw [h2]at h3;cases h3;exact h4
theorem ConL.take {E:Env} {as:List AV} {vs:List Value} (h:ConL E as vs) (n:Nat):ConL E (as.take n) (vs.take n):=by refine ConL.of_at (by simp [h.length]) λi a v h1 h2=>?_;simp only [List.getElem?_take]at h1 h2;split at h1;rename_i hlt;simp only [hlt,if_true]at h2;obtain ⟨v',h3,h4⟩:=h.at _ _ h1;rw [h2]at h3;cases h3;exact h4;cases h1
theorem ConL.nil (E:Env):ConL E [] []:=by simp [ConL]
theorem ConL.cons {E:Env} {a:AV} {v:Value} {as:List AV} {vs:List Value} (h:Con E a v) (h':ConL E as vs):ConL E (a::as) (v::vs):=by simp only [ConL];exact ⟨v,vs,rfl,h,h'⟩
def AV.cells:AV->List AV
 | .agg cs=>cs
 |v=>[v]
theorem Con0.one {E:Env} {a:AV} {v:Value} (h:Con0 E a v) (ho:a.one=true):v.oneCell'=true:=by
 cases a<;>simp only [AV.one,Bool.false_eq_true]at ho<;>
  (simp only [Con0]at h<;>first
    |(subst h;rfl)
    |(obtain ⟨_,_,_,rfl,_⟩:=h;rfl)
    |(obtain ⟨_,_,_,_,rfl|⟨rfl,_,rfl⟩,_⟩:=h<;>rfl)
    |(obtain ⟨_,rfl,_⟩:=h;rfl))
theorem p4_ {v:Value} (h:v.oneCell'=true):v.cells.toList=[v]:=by cases v<;>first|rfl|(simp [Value.oneCell']at h)
theorem Con.one {E:Env} {a:AV} {v:Value} (h:Con E a v) (ho:a.one=true):v.oneCell'=true:=by
 cases a<;>simp only [AV.one,Bool.false_eq_true]at ho<;>
  (simp only [Con]at h;first
    |(subst h;rfl)
    |(obtain ⟨a,_,h1,h2⟩:=h;exact h2.one h1)
    |(obtain ⟨_,_,⟨_,rfl⟩|⟨_,_,_,_,_,_,_,_,_,_,rfl,_⟩⟩:=h<;>rfl)
    |(obtain ⟨_,_,_,_,_,_,_,_,_,rfl,_⟩:=h;rfl)
    |(obtain ⟨_,_,_,_,_,_,rfl⟩:=h;rfl)
    |(obtain ⟨_,_,_,rfl⟩:=h;rfl)
    |(obtain ⟨_,_,_,rfl,_⟩:=h;rfl)
    |(obtain ⟨_,_,_,_,_,_,_,rfl,_⟩:=h;rfl)
    |(obtain ⟨_,_,_,_,rfl|⟨rfl,_,rfl⟩,_⟩:=h<;>rfl)
    |(obtain ⟨_,_,rfl⟩:=h;rfl)
    |(obtain ⟨_,rfl,_⟩:=h;rfl))
theorem Con.cells {E:Env} {a:AV} {v:Value} (h:Con E a v) (ho:a≠ .opq):ConL E a.cells v.cells.toList:=by
 have one:a.one=true->ConL E [a] v.cells.toList:=λh1=>by rw [p4_ (h.one h1)];exact ConL.cons h (ConL.nil E)
 cases a with
 |opq=>exact absurd rfl ho
 |agg cs=>simp only [Con]at h;obtain ⟨vs,rfl,h2⟩:=h;simpa [Value.cells,AV.cells]using h2
 |tup cs=>simp only [AV.cells];have hc:=h;simp only [Con]at h;obtain ⟨vs,rfl,h2⟩:=h;simpa [Value.cells]using ConL.cons hc (ConL.nil E)
 |_=>exact one rfl
def ConE (E:Env):List (AV×AV×Nat)->List MapEntry->Prop
 |[],es=>es=[]
 |(k,v,n)::as,es=>∃e r,es=e::r/\Con E k e.key/\Con E v e.val/\e.born=n/\ConE E as r
theorem ConE.sub {E E':Env} (h:E.sub E'):∀{as:List (AV×AV×Nat)} {es:List MapEntry},ConE E as es->ConE E' as es
 |[],_,hc=>hc
 |(k,v,n)::as,es,hc=>by simp only [ConE]at hc⊢;obtain ⟨e,r,h1,h2,h3,h4,h5⟩:=hc;exact ⟨e,r,h1,h2.sub h,h3.sub h,h4,h5.sub h⟩
theorem ConE.mono {E E':Env} (h:E.le E') {as:List (AV×AV×Nat)} {es:List MapEntry} (hc:ConE E as es):ConE E' as es:=ConE.sub h.1 hc
def enK:AV->AV
 | .agg cs=>.iface 0 (.agg cs)
 | .iface t a=>.iface 0 (.iface t a)
 |k=>k
def unK:AV->AV
 | .iface t a=>match t with
   |0=>a
   |t+1=>.iface (t+1) a
 |k=>k
theorem ip_ (k:AV):unK (enK k)=k:=by cases k<;>rfl
def ConM (E:Env):List AV->List MapEntry->Prop
 |[],es=>es=[]
 |[_],_=>False
 |k::v::r,es=>∃e t,es=e::t/\(enK (unK k)=k/\Con0 E (unK k) e.key)/\Con0 E v e.val/\ConM E r t
theorem ConM.imp {E E':Env} (h:∀a v,Con0 E a v->Con0 E' a v):∀{cs:List AV} {es:List MapEntry},ConM E cs es->ConM E' cs es
 |[],es,hc=>hc
 |[_],es,hc=>hc
 |k::v::r,es,hc=>by obtain ⟨e,t,h1,h2,h3,h4⟩:=hc;exact ⟨e,t,h1,⟨h2.1,h _ _ h2.2⟩,h _ _ h3,ConM.imp h h4⟩
def BlkAt (E:Env) (w:World) (b o:Nat):ABlk->Prop
 | .cells cs=>∃(arr:Array Value) (t:TypeId),w.heap[b]? =some (.cells arr t (0,0))/\E.sz b=some arr.size/\o+cs.length<=arr.size/\
    ∀(i:Nat) (a:AV),cs[i]? =some a->∃v,arr[o+i]? =some v/\Con E a v
 | .map es clock=>o=0/\∃es',w.heap[b]? =some (.map es' clock)/\ConE E es es'.toList
 | .syl j=>∃len sz cs,E.sy j=some (.vsl len sz cs)/\cs.length=len*sz/\∃(arr:Array Value) (t:TypeId),w.heap[b]? =some (.cells arr t (0,0))/\E.sz b=some arr.size/\o+cs.length<=arr.size/\
    ∀(i:Nat) (a:AV),cs[i]? =some a->∃v,arr[o+i]? =some v/\a.one=true/\Con0 E a v
 | .fz cs=>∃(arr:Array Value) (t:TypeId) (fr:Nat×Nat),w.heap[b]? =some (.cells arr t fr)/\E.sz b=some arr.size/\o+cs.length<=arr.size/\fr.2<=o+cs.length/\
    ∀(i:Nat) (a:AV),cs[i]? =some a->∃v,arr[o+i]? =some v/\Con E a v
 | .mpl j=>o=0/\∃n cs,E.sy j=some (.vsl n 2 cs)/\∃es' clock,w.heap[b]? =some (.map es' clock)/\es'.size=n/\ConM E cs es'.toList
theorem BlkAt.sub {E E':Env} {w w':World} {b o:Nat} {k:ABlk} (h:E.sub E') (hw:w'.heap[b]? =w.heap[b]?) (hk:BlkAt E w b o k):BlkAt E' w' b o k:=by
 cases k with
 |cells cs=>obtain ⟨arr,t,h1,h2,h3,h4⟩:=hk;refine ⟨arr,t,hw.trans h1,h.2.1 _ _ h2,h3,λi a ha=>?_⟩;obtain ⟨v,hv,hc⟩:=h4 i a ha;exact ⟨v,hv,hc.sub h⟩
 |map es clock=>obtain ⟨h0,es',h1,h2⟩:=hk;exact ⟨h0,es',hw.trans h1,h2.sub h⟩
 |syl j=>obtain ⟨len,sz,cs,h0,hlen,arr,t,h1,h2,h3,h4⟩:=hk;refine ⟨len,sz,cs,by rw [h.2.2.2.1];exact h0,hlen,arr,t,hw.trans h1,h.2.1 _ _ h2,h3,λi a ha=>?_⟩;obtain ⟨v,hv,ho,hc⟩:=h4 i a ha;exact ⟨v,hv,ho,hc.sub h⟩
 |fz cs=>obtain ⟨arr,t,fr,h1,h2,h3,h5,h4⟩:=hk;refine ⟨arr,t,fr,hw.trans h1,h.2.1 _ _ h2,h3,h5,λi a ha=>?_⟩;obtain ⟨v,hv,hc⟩:=h4 i a ha;exact ⟨v,hv,hc.sub h⟩
 |mpl j=>obtain ⟨h0,n,cs,h1,es',clock,h2,h3,h4⟩:=hk;exact ⟨h0,n,cs,by rw [h.2.2.2.1];exact h1,es',clock,hw.trans h2,h3,h4.imp λ_ _ hc=>hc.sub h⟩
theorem BlkAt.mono {E E':Env} {w w':World} {b o:Nat} {k:ABlk} (h:E.le E') (hw:w'.heap[b]? =w.heap[b]?) (hk:BlkAt E w b o k):BlkAt E' w' b o k:=BlkAt.sub h.1 hw hk
def Void (E:Env):ABlk->Prop
 | .syl j=>E.sy j=some .nsl
 |_=>False
theorem Void.sub {E E':Env} (h:∀i,E.sy i=some .nsl->E'.sy i=some .nsl) {k:ABlk} (hv:Void E k):Void E' k:=by
 cases k with
 |syl j=>exact h j hv
 |_=>exact hv
def RowAt (E:Env) (w:World) (own:Nat->Option Nat) (id:Nat) (k:ABlk):Prop:=(E.vd id/\Void E k)\/∃b o,E.φ id=some (b,o)/\own b=some id/\BlkAt E w b o k
theorem RowAt.imp {E E':Env} {w w':World} {own own':Nat->Option Nat} {id:Nat} {k k':ABlk} (h:RowAt E w own id k) (hφ:∀x,E.φ id=some x->E'.φ id=some x) (hv:E.vd id/\Void E k->E'.vd id/\Void E' k')
  (hb:∀b o,E.φ id=some (b,o)->own b=some id->BlkAt E w b o k->own' b=some id/\BlkAt E' w' b o k'):RowAt E' w' own' id k':=by
 rcases h with h|⟨b,o,h1,h2,h3⟩;exact .inl (hv h);exact .inr ⟨b,o,hφ _ h1,hb b o h1 h2 h3⟩
structure Rel (B:World) (pr:Nat->Prop) (E:Env) (H:AHeap) (w:World):Prop where
 own:∃own:Nat->Option Nat,
  (∀id k,H.get id=some k->RowAt E w own id k)/\
  (∀b,pr b->own b=none)/\(∀b o v,E.imm b o=some v->own b=none)
 imm:∀b o v,E.imm b o=some v->w.cell? ⟨b,o,none⟩=some v
 ib:∀b o v,pr b->E.imm b o=some v->E.bim b o=some v
 fresh:∀id,H.next<=id->id<H.hi->E.φ id=none
 resv:∀id,E.res id->E.φ id=none/\¬(H.next<=id/\id<H.hi)
 vds:∀id,E.vd id->E.res id
 szs:∀b n,E.sz b=some n->∃arr t fr,w.heap[b]? =some (.cells arr t fr)/\arr.size=n
 prot:∀b,pr b->b<B.heap.size/\w.heap[b]? =B.heap[b]?
 size:B.heap.size<=w.heap.size
 os:w.os=B.os
 output:w.output=B.output
section
variable {B:World} {pr:Nat->Prop} {E:Env} {H:AHeap} {w:World}
theorem Rel.drawn (h:Rel B pr E H w) (n:Nat):Rel B pr E H { w with drawn:=n } where
 own:=by obtain ⟨own,h1,h2⟩:=h.own;refine ⟨own,λid k hk=>?_,h2⟩;exact (h1 id k hk).imp (λ_ h=>h) (λh=>h) λb o hφ ho hb=>⟨ho,hb.mono (Env.le_refl _) rfl⟩
 imm:=h.imm
 ib:=h.ib
 fresh:=h.fresh
 resv:=h.resv
 vds:=h.vds
 szs:=h.szs
 prot:=h.prot
 size:=h.size
 os:=h.os
 output:=h.output
theorem Rel.blk (h:Rel B pr E H w) {id:Nat} {k:ABlk} (hk:H.get id=some k) {b o:Nat} (hφ:E.φ id=some (b,o)) (hnv:¬Void E k:=by exact λh=>h):BlkAt E w b o k:=by obtain ⟨own,h1,_⟩:=h.own;obtain ⟨_,hv⟩|⟨b',o',hφ',_,hb⟩:=h1 id k hk;exact absurd hv hnv;rw [hφ]at hφ';cases hφ';exact hb
theorem Rel.cell (h:Rel B pr E H w) {id:Nat} {cs:List AV} (hk:H.get id=some (.cells cs)) {b o:Nat} (hφ:E.φ id=some (b,o)) {i:Nat} {a:AV} (ha:cs[i]? =some a):
  ∃v,w.cell? ⟨b,o+i,none⟩=some v/\Con E a v/\w.frozen? ⟨b,o+i,none⟩=false:=by
 obtain ⟨arr,t,h1,_,_,h4⟩:=h.blk hk hφ;obtain ⟨v,hv,hc⟩:=h4 i a ha;exact ⟨v,by simp [World.cell?,h1,hv],hc,by simp [World.frozen?,h1]⟩
end
end Go.Sx
