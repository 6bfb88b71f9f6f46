/-
  What operations give at values of known forms; a call of symbols, by its tree.
-/
import Derived.Test.YtelnbodnjmldeaaGreatSyO
import Derived.Test.YtelnbodnjmldeaaGreatSyS
import Derived.Test.YtelnbodnjmldeaaGreatSxX
set_option linter.all false
open Nat renaming le_trans→za',le_mul_of_pos_right→zb',beq_refl→zc',div_self→ze',pow_le_pow_right→zf',le_refl→zg'
open List renaming not_mem_nil→zd'
namespace Go.Sx
theorem bn (Y:Sy) (n:Nat) (a:AV) (i:Nat):(Y.put n a).v i=if i=n then some a else Y.v i:=rfl
section
variable (P:Program) (t:TypeId) (cx cy:Bool) (k:IntKind) (a b:Int)
theorem HV:Nat.beq (FB k) (FB k)=true:=zc' _
def Kc {op:BinOp} {r:AV} (h:F2 op k a b=some r):(XOp.bin op t cx cy).run P [.int k a,.int k b]=some r:=by
 show JM P op k a k b=some r
 grind [JM,HV]
theorem Bn:(XOp.bin .lss t cx cy).run P [.int k a,.int k b]=some (.bool (decide (a<b))):=Kc P t cx cy k a b (by grind [RZ,F2])
theorem BF:(XOp.bin .gtr t cx cy).run P [.int k a,.int k b]=some (.bool (decide (b<a))):=Kc P t cx cy k a b (by grind [RZ,F2])
theorem BN:(XOp.bin .leq t cx cy).run P [.int k a,.int k b]=some (.bool (decide (a<=b))):=Kc P t cx cy k a b (by grind [RZ,F2])
theorem Ba:(XOp.bin .geq t cx cy).run P [.int k a,.int k b]=some (.bool (decide (b<=a))):=Kc P t cx cy k a b (by grind [RZ,F2])
theorem Aw:(XOp.bin .eql t cx cy).run P [.int k a,.int k b]=some (.bool (decide (a=b))):=Kc P t cx cy k a b (by grind [KW,F2])
theorem Av:(XOp.bin .neq t cx cy).run P [.int k a,.int k b]=some (.bool (!decide (a=b))):=Kc P t cx cy k a b (by grind [KW,F2])
theorem A9:(XOp.bin .add t cx cy).run P [.int k a,.int k b]=some (.int k (k.wrap (a+b))):=Kc P t cx cy k a b (by grind [Iv,Km,F2])
theorem Bu:(XOp.bin .sub t cx cy).run P [.int k a,.int k b]=some (.int k (k.wrap (a-b))):=Kc P t cx cy k a b (by grind [Iv,Km,F2])
def F7:(XOp.bin .mul t cx cy).run P [.int k a,.int k b]=some (.int k (k.wrap (a*b))):=Kc P t cx cy k a b (by grind [Iv,Km,F2])
def Ib (x:Bool):(XOp.un .not).run P [.bool x]=some (.bool (!x)):=rfl
variable {P t}
end
def DU {x:Int} (h1: -9223372036854775808<=x) (h2:x<=9223372036854775807):IntKind.i64.wrap x=x:=by simp [IntKind.wrap,IntKind.bits,IntKind.signed];omega
variable [Gl]
def NG {P:Program} (hm:P.follows .mixedOrders=true) (ho:ES P) {f:FuncId} {ft:FT} {vs:List AV} {R:Nat->List AV->Prop} {c:VC} {n:Nat} {t:VT} (hlen:vs.length=ft.ent.nv) (hk:∀Y,AA Y 64->Br P c.fc (Y.puts 64 vs))
  (ht:Vz P n c f ft=t) (h:∀Y,AA Y 64->Gl.gt Y.v->AB P (QF R) [] (Y.puts 64 vs) t):CF P f ft vs R:=
 ⟨hlen,λY hf B pr E w us hy hg hr hcon=>by obtain ⟨p1,_,_,p4⟩:=hf.puts vs;rw [hlen]at p1;have hgt:Gl.gt Y.v:=Gl.gtm _ _ (λi hi=>by rw [hy.v];grind) hg.2;exact wy (c:=c) (fuel:=n) hm (Ma hm ho n) ⟨p1,hk Y hf⟩ (by grind) B pr E w us hy hg hr hcon⟩
end Go.Sx
namespace Go.Sx
section
variable [Gl] {P:Program} {Q:AV->Prop} {L:List (Nat->List AV->Prop)} {Y:Sy}
def Aa {op:XOp} {ag:List AV} {n:Nat} {t:VT} {r:AV} (h1:op.run P (Am Y.v ag)=some r) (h2:okC r=true) (h3:AB P Q L (Y.put n r) t):AB P Q L Y (.lt op ag n none t):=⟨r,h1,h2,h3⟩
def B3 {op:XOp} {ag:List AV} {n k:Nat} {t:VT} {cs:List AV} (h1:op.run P (Am Y.v ag)=some (.agg cs)) (hl:cs.length=k) (h2:Ak cs=true) (h3:AB P Q L (Y.puts n cs) t):AB P Q L Y (.lt op ag n (some k) t):=⟨cs,h1,hl,h2,h3⟩
def AC {i:Nat} {a b:VT} {t:Bool} (h:Y.v i=some (.bool t)) (h1:t=true->AB P Q L Y a) (h2:t=false->AB P Q L Y b):AB P Q L Y (.ite i a b):=⟨t,h,h1,h2⟩
def Ar {f:FuncId} {ag:List AV} {n:Nat} {sh:List (Option Nat)} {t:VT} {v:AV} {vs:List AV} (h1:HR P f (Am Y.v ag) v) (h2:Ls sh v=some vs) (h3:Ak vs=true) (h4:AB P Q L (Y.puts n vs) t):AB P Q L Y (.call f ag n sh t):=
 ⟨v,vs,h1,h2,h3,h4⟩
def Cg {k:DF} {t:VT} (h:k.ok Y) (h1:AB P Q L Y t):AB P Q L Y (.chk k t):=⟨h,h1⟩
def Bo {f:FuncId} {ft:FT} {hv:List AV} {n:Nat} {bs:GY} {R:Nat->List AV->Prop} (h1:CF P f ft (Am Y.v hv) R) (h2:Ak (Am Y.v hv)=true) (h3:QG P Q R L (Y.puts n (Am Y.v hv)) (Nat.add n ft.ent.nv) 0 bs):AB P Q L Y (.callF f ft hv n bs):=⟨R,h1,h2,h3⟩
def Ai {R:Nat->List AV->Prop} {j:Nat} {hv:List AV} (h1:Ak (Am Y.v hv)=true) (h:R j (Am Y.v hv)):AB P (QF R) L Y (.done (.tup (.int .i64 (.ofNat j)::hv))):=⟨j,_,rfl,h1,h⟩
def As {v:AV} (h:Q (Ap Y.v v)):AB P Q L Y (.done v):=h
def CX {lvl j:Nat} {hv:List AV} {R:Nat->List AV->Prop} (h1:L[lvl]? =some R) (h2:R j (Am Y.v hv)):AB P Q L Y (.again lvl j hv):=⟨R,h1,h2⟩
open Classical in
def D3 {ι:Type} (st:ι->List AV) (p:ι->Prop) (μ:ι->Nat) (i0:ι) (h0:p i0) {n nv:Nat} {hv:List AV} {t:VT} (he:Am Y.v hv=st i0) (hok:∀i,p i->Ak (st i)=true)
  (hμ:∀i j,p i->p j->st i=st j->μ i=μ j) (hb:∀i,p i->AB P Q (L++[λ_ vs=>∃i',p i'/\vs=st i'/\μ i'<μ i]) (Y.puts n (st i)) t):AB P Q L Y (.loop n 0 hv (.cons nv t .nil)):=by
 let m:List AV->Nat:=λvs=>if h:∃i,p i/\vs=st i then μ (Classical.choose h)else 0
 have hm:∀i,p i->m (st i)=μ i:=λi hi=>by
  have h:∃j,p j/\st i=st j:=⟨i,hi,rfl⟩
  grind
 refine ⟨λ_ vs=>∃i,p i/\vs=st i,λ_ vs=>m vs,λj vs ⟨i,h1,h2⟩=>by grind,⟨i0,h0,he⟩,λvs hvs hI=>?_,trivial⟩;obtain ⟨i,h1,h2⟩:=hI;subst h2;have e:(λ(_:Nat) (vs':List AV)=>(∃i',p i'/\vs'=st i')/\m vs'<m (st i))=λ_ vs'=>∃i',p i'/\vs'=st i'/\μ i'<μ i:=by
  funext _ vs'
  refine propext ⟨λh=>?_,λh=>?_⟩
  .grind
  .obtain ⟨i',g1,g2,g3⟩:=h;subst g2
   grind
 grind
end
def YM:∀(n:Nat) (sh:List (Option Nat)),Bi (Fr n sh)=true
 |_,[]=>rfl
 |n,none::s=>by simp only [Fr,Bi,Bf];exact YM _ s
 |n,some m::s=>by simp only [Fr,Bi,Bf,cA];exact YM _ s
theorem Xg:∀{sh:List (Option Nat)} {l vs:List AV},flat sh l=some vs->Ak vs=true->Gt l=true
 |[],[],vs,h,_=>rfl
 |none::s,a::r,vs,h,hok=>by unfold flat at h;split at h;rename_i l' hl;cases h;rw [CL]at hok;obtain ⟨k1,k2⟩:=Aq hok;simp only [Gt,sX_ k1,Xg hl k2];cases h
 |some m::s,a::r,vs,h,hok=>by have ha:∃cs,a=.agg cs:=(by cases a<;>first|exact ⟨_,rfl⟩|(cases h));obtain ⟨cs,rfl⟩:=ha;simp only [flat]at h;split at h;split at h;rename_i l' hl;cases h;obtain ⟨k1,k2⟩:=aT hok;simp only [Gt,okI,k1,Xg hl k2];cases h;cases h
 |[],_::_,vs,h,_=>by cases h
 |none::_,[],vs,h,_=>by cases h
 |some _::_,[],vs,h,_=>by cases h
def XO {s:Nat->Option AV}:∀(sh:List (Option Nat)) (n:Nat) (l vs:List AV),flat sh l=some vs->(∀i a,vs[i]? =some a->s (n+i)=some a)->Am s (Fr n sh)=l
 |[],n,[],vs,h,_=>rfl
 |none::sh,n,a::r,vs,h,hs=>by
  unfold flat at h;split at h
  .rename_i l' hl;cases h;have h0:s n=some a:=(by simpa using hs 0 a rfl);simp only [Fr,Am,Ap,h0];rw [XO sh (n+1) r l' hl λi b hb=>by
    have:=hs (i+1) b (by grind)
    grind]
  cases h
 |some m::sh,n,a::r,vs,h,hs=>by
  have ha:∃cs,a=.agg cs:=(by cases a<;>first|exact ⟨_,rfl⟩|(cases h));obtain ⟨cs,rfl⟩:=ha;simp only [flat]at h;split at h
  .rename_i hd;have hd:cs.length=m:=AR hd;subst hd;split at h
   .rename_i l' hl;cases h;show AV.agg (Am s (Af n cs.length))::Am s (Fr (n+cs.length) sh)=_;rw [XO sh (n+cs.length) r l' hl λi b hb=>by
     have:=hs (cs.length+i) b (by grind)
     grind]
    rw [den_symsL n cs λi b hb=>hs i b (by
     grind)]
   cases h
  cases h
 |[],_,_::_,vs,h,_=>by cases h
 |none::_,_,[],vs,h,_=>by cases h
 |some _::_,_,[],vs,h,_=>by cases h
where
 den_symsL {s:Nat->Option AV}:∀(n:Nat) (cs:List AV),(∀i a,cs[i]? =some a->s (n+i)=some a)->Am s (Af n cs.length)=cs
 |n,[],_=>rfl
 |n,a::r,h=>by
  have h0:s n=some a:=(by simpa using h 0 a rfl);simp only [List.length_cons,Af,Am,Ap,h0];rw [den_symsL (n+1) r λi b hb=>by
   have:=h (i+1) b (by grind)
   grind]
def MI [Gl] {P:Program} (hm:P.follows .mixedOrders=true) (ho:ES P) {f:FuncId} {ag ls:List AV} {sh:List (Option Nat)} {v:AV} {c:VC} {n m:Nat} {t:VT} (hfl:flat sh ag=some ls) (hls:Ak ls=true) (hv:BP v=true)
  (hk:∀Y,AA Y 64->Br P c.fc (Y.puts 64 ls)) (hm':64+FJ sh=m) (ht:TD P n c f (Fr 64 sh) m=t) (h:∀Y,AA Y 64->Gl.gt Y.v->AB P (· =v) [] (Y.puts 64 ls) t):HR P f ag v:=
 ET (args':=Fr 64 sh) (Xg hfl hls) hv (YM _ _) hls (λY hf=>XO sh 64 ag ls hfl λi a ha=>Gj ls hf i a ha) λY hf hg=>
  (ec (c:=c) (n:=m) hm (Ma hm ho n) ⟨by have:=(hf.puts ls).1;grind [T9],hk Y hf⟩ (by grind)).low
def EY [Gl] {P:Program} (hm:P.follows .mixedOrders=true) (ho:ES P) {f:FuncId} {ag args' ls:List AV} {v:AV} {c:VC} {n m:Nat} {t:VT} (hok:Gt ag=true) (hso:Bi args'=true) (hls:Ak ls=true) (hv:BP v=true)
  (hden:∀Y,AA Y 64->Am (Y.puts 64 ls).v args'=ag) (hk:∀Y,AA Y 64->Br P c.fc (Y.puts 64 ls)) (hm':64+ls.length=m) (ht:TD P n c f args' m=t) (h:∀Y,AA Y 64->Gl.gt Y.v->AB P (· =v) [] (Y.puts 64 ls) t):HR P f ag v:=
 ET (args':=args') hok hv hso hls hden λY hf hg=>
  (ec (c:=c) (n:=m) hm (Ma hm ho n) ⟨by have:=(hf.puts ls).1;grind,hk Y hf⟩ (by grind)).low
def Ck [Gl] {P:Program} (Y:Sy):Br P ⟨[],[]⟩ Y:=⟨λf h=>(zd' h).elim,λf h=>(zd' h).elim⟩
def Ay {α:Type} (enc:α->List AV):List α->List AV
 |[]=>[]
 |a::r=>enc a++Ay enc r
def Cr {α:Type} (enc:α->List AV) (w:Nat) (l:List α):AV:=match l with
 |[]=>.nsl
 |a::r=>.vsl (r.length+1) w (Ay enc (a::r))
section
variable {α:Type} {enc:α->List AV} {w:Nat}
theorem Kf:∀a b:List α,Ay enc (a++b)=Ay enc a++Ay enc b
 |[],b=>rfl
 |x::r,b=>by simp only [Bl,Ay,Kf r b,Be]
theorem EC (hw:∀a,(enc a).length=w):∀l:List α,(Ay enc l).length=l.length*w
 |[]=>by simp [Ay]
 |a::r=>by simp only [Ay,Ax,hw,EC hw r,List.length_cons,Nat.add_mul];omega
theorem nH (hw:∀a,(enc a).length=w):∀(l:List α) (i:Nat),(Ay enc l).drop (i*w)=Ay enc (l.drop i)
 |l,0=>by simp
 |[],i+1=>by simp [Ay]
 |a::r,i+1=>by simp only [Ay,List.drop_succ_cons];rw [←nH hw r i,Nat.add_mul,Nat.one_mul,Nat.add_comm,←List.drop_drop,List.drop_left' (hw a)]
theorem A5 (h:∀a,Ak (enc a)=true):∀l:List α,Ak (Ay enc l)=true
 |[]=>rfl
 |a::r=>okL_join (h a) (A5 h r)
where
 okL_join:∀{a b:List AV},Ak a=true->Ak b=true->Ak (a++b)=true
 |[],b,_,h=>h
 |x::r,b,h1,h2=>by rw [CL]at h1;obtain ⟨k1,k2⟩:=Aq h1;rw [List.cons_append,CL,k1,okL_join k2 h2];rfl
theorem SK (h:∀a,Ak (enc a)=true) (l:List α):okC (Cr enc w l)=true:=by
 cases l with
 |nil=>rfl
 |cons a r=>exact A5 h (a::r)
mutual
theorem Mc:∀{a:AV},okC a=true->BP a=true
 | .opq,h=>by simp [okC]at h
 | .bool _,_=>rfl
 | .int _ _,_=>rfl
 | .flt _ _,_=>rfl
 | .nan _,_=>rfl
 | .str _,_=>rfl
 | .nptr,_=>rfl
 | .ptr _ _,h=>by simp [okC]at h
 | .vptr cs,h=>by simp only [okC]at h;simp only [BP];exact J4 h
 | .nsl,_=>rfl
 | .sl ..,h=>by simp [okC]at h
 | .vsl _ _ cs,h=>by simp only [okC]at h;simp only [BP];exact J4 h
 | .nmap,_=>rfl
 | .map _,h=>by simp [okC]at h
 | .nfn,_=>rfl
 | .fn _ cs,h=>by simp only [okC]at h;simp only [BP];exact J4 h
 | .nif,_=>rfl
 | .iface _ a,h=>by simp only [okC]at h;simp only [BP];exact aR h
 | .agg _,h=>by simp [okC]at h
 | .tup _,h=>by simp [okC]at h
 | .sym _,h=>by simp [okC]at h
 | .slx ..,h=>by simp [okC]at h
 | .ptx ..,h=>by simp [okC]at h
theorem aR:∀{a:AV},okI a=true->BP a=true
 | .opq,h=>by simp [okI]at h
 | .bool _,_=>rfl
 | .int _ _,_=>rfl
 | .flt _ _,_=>rfl
 | .nan _,_=>rfl
 | .str _,_=>rfl
 | .nptr,_=>rfl
 | .ptr _ _,h=>by simp [okI]at h
 | .vptr cs,h=>by simp only [okI]at h;simp only [BP];exact J4 h
 | .nsl,_=>rfl
 | .sl ..,h=>by simp [okI]at h
 | .vsl _ _ cs,h=>by simp only [okI]at h;simp only [BP];exact J4 h
 | .nmap,_=>rfl
 | .map _,h=>by simp [okI]at h
 | .nfn,_=>rfl
 | .fn _ cs,h=>by simp only [okI]at h;simp only [BP];exact J4 h
 | .nif,_=>rfl
 | .iface _ a,h=>by simp only [okI]at h;simp only [BP];exact aR h
 | .agg cs,h=>by simp only [okI]at h;simp only [BP];exact J4 h
 | .tup _,h=>by simp [okI]at h
 | .sym _,h=>by simp [okI]at h
 | .slx ..,h=>by simp [okI]at h
 | .ptx ..,h=>by simp [okI]at h
theorem J4:∀{l:List AV},Ak l=true->Gh l=true
 |[],_=>rfl
 |a::r,h=>by rw [CL]at h;obtain ⟨h1,h2⟩:=Aq h;simp only [Gh,Mc h1,J4 h2]
end
variable {P:Program} {t e:TypeId} {ti:TypeInfo}
def Uo (ht:P.underlying t=some (.slice e)) (l:List α):(XOp.len t).run P [Cr enc w l]=some (.int .i64 (l.length:Int)):=by
 cases l with
 |nil=>show EG P h0 t .nsl=_;grind [EG]
 |cons a r=>show EG P h0 t (.vsl (r.length+1) w (Ay enc (a::r)))=_;grind [EG]
theorem Bb (ht:P.underlying t=some (.slice e)) (hi:P.info? e=some ti) (hs:ti.size=w) (hw:∀a,(enc a).length=w) {l:List α} {i:Nat} (h:i<l.length) (k:IntKind):
  (XOp.iaddr t).run P [Cr enc w l,.int k (i:Int)]=some (.vptr (Ay enc (l.drop i))):=by
 cases l with
 |nil=>simp at h
 |cons a r=>
  show Hn P t (.vsl (r.length+1) w _) (.int k (.ofNat i))=_;unfold Hn;have hb:Nat.blt i (r.length+1)=true:=(by simp_all);simp only [ht,hi,idx,hb,hs,DT]
  grind [nH]
theorem Lm:∀(a b:List AV),CN a.length (a++b)=some a
 |[],b=>rfl
 |x::r,b=>by simp only [List.length_cons,Bl,CN,Lm r b]
def Bv {d:TypeDesc} (ht:P.underlying t=some d) (ha:IG d=true) (hi:P.info? t=some ti) (hs:ti.size=w) (hw:∀a,(enc a).length=w) {l:List α} {i:Nat} (h:i<l.length):
  (XOp.load t).run P [.vptr (Ay enc (l.drop i))]=some (.agg (enc l[i])):=by
 show Dj P h0 t (.vptr _)=_
 grind [Dj,Du,List.drop_eq_getElem_cons,Ay,Lm]
def NN {d:TypeDesc} (ht:P.underlying t=some d) (ha:IG d=false) (x:AV) (r:List AV):(XOp.load t).run P [.vptr (x::r)]=some x:=by
 show Dj P h0 t (.vptr _)=_
 grind [Dj,Du,CN]
def SZ {sz bytes:Nat} (hw:∀a,(enc a).length=sz) (hsz:0<sz) (hb:0<bytes) (l:List α) (a:α) (hl:(l.length+1)*bytes<=1073741824):(XOp.app sz bytes).run P [Cr enc sz l,.agg (enc a)]=some (Cr enc sz (l++[a])):=by
 have h1:Nat.div (Bp (enc a)) sz=1:=by rw [BW,hw];exact ze' hsz
 have hl1:l.length+1<=1073741824:=za' (zb' _ hb) hl;show (match DC sz (.agg (enc a))with|some (n,l')=>En sz bytes (Cr enc sz l) n l'|none=>none)=_;simp only [DC,h1];unfold En;have hd:decide ((enc a).length=1*sz)=true:=by grind
 simp only [hd];cases l with
 |nil=>
  have c1:(Nat.ble (Nat.mul 1 bytes) 1073741824&&Nat.ble 1 1073741824&&Nat.blt 0 bytes)=true:=by simp_all
  grind [Cr,Ay]
 |cons b r=>
  have c1:(Nat.ble (Nat.mul (Nat.add (r.length+1) 1) bytes) 1073741824&&Nat.ble (Nat.add (r.length+1) 1) 1073741824&&Nat.blt 0 bytes)=true:=(by simp_all);have hlen:(Ay enc (b::r)).length=(r.length+1)*sz:=EC hw (b::r);have e3:Ay enc (b::(r++[a]))=Ay enc (b::r)++enc a:=by
   grind [Kf,Ay]
  have e4:(r++[a]).length+1=Nat.add (r.length+1) 1:=(by simp);simp only [Cr,hlen,true_and,decide_true,c1,Bl,e3,e4]
def dE {sz bytes:Nat} (hw:∀a,(enc a).length=sz) (hsz:0<sz) (hb:0<bytes) (l l':List α) (hl:(l.length+l'.length)*bytes<=1073741824):(XOp.app sz bytes).run P [Cr enc sz l,Cr enc sz l']=some (Cr enc sz (l++l')):=by
 have hl1:l.length+l'.length<=1073741824:=za' (zb' _ hb) hl;show (match DC sz (Cr enc sz l')with|some (n,l')=>En sz bytes (Cr enc sz l) n l'|none=>none)=_;have ha:DC sz (Cr enc sz l')=some (l'.length,Ay enc l'):=by
  cases l' with
  |nil=>rfl
  |cons a r=>
   show (match Cu ⟨AD,0,0⟩ (.vsl (r.length+1) sz (Ay enc (a::r))) (r.length+1) sz with|some l=>some (r.length+1,l)|none=>none)=_;have:Cu ⟨AD,0,0⟩ (.vsl (r.length+1) sz (Ay enc (a::r))) (r.length+1) sz=some (Ay enc (a::r)):=by
    show CN (Nat.mul (r.length+1) sz) _=_;have h:=Lm (Ay enc (a::r)) []
    grind [EC]
   grind
 simp only [ha];unfold En;have hd:decide ((Ay enc l').length=l'.length*sz)=true:=AX (EC hw l');simp only [hd];cases l with
 |nil=>
  cases l' with
  |nil=>rfl
  |cons a r=>
   have c1:(Nat.ble (Nat.mul (a::r).length bytes) 1073741824&&Nat.ble (a::r).length 1073741824&&Nat.blt 0 bytes)=true:=by simp_all
   grind [Cr]
 |cons b q=>
  cases l' with
  |nil=>have hlen:(Ay enc (b::q)).length=(q.length+1)*sz:=EC hw (b::q);simp only [Cr,AH,hlen,true_and,decide_true,Ch]
  |cons a r=>
   have c1:(Nat.ble (Nat.mul (Nat.add (q.length+1) (r.length+1)) bytes) 1073741824&&Nat.ble (Nat.add (q.length+1) (r.length+1)) 1073741824&&Nat.blt 0 bytes)=true:=(by simp_all);have hlen:(Ay enc (b::q)).length=(q.length+1)*sz:=EC hw (b::q);have e3:Ay enc (b::(q++a::r))=Ay enc (b::q)++Ay enc (a::r):=by
    grind [Kf]
   have e4:(q++a::r).length+1=Nat.add (q.length+1) (r.length+1):=by
    grind
   simp only [Cr,List.length_cons,hlen,true_and,decide_true,c1,Bl,e3,e4]
end
def BG {α:Type} (enc:α->List AV) (w:Nat) (l:List α):AV:=.vsl l.length w (Ay enc l)
def SlV {α:Type} (enc:α->List AV) (w:Nat) (l:List α) (a:AV):Prop:=a=BG enc w l\/(l=[]/\a=.nsl)
section
variable {α:Type} {enc:α->List AV} {w:Nat}
def SlV.of (l:List α):SlV enc w l (Cr enc w l):=by
 cases l with
 |nil=>exact .inr ⟨rfl,rfl⟩
 |cons a r=>exact .inl rfl
theorem SlV.v (l:List α):SlV enc w l (BG enc w l):=.inl rfl
theorem SlV.eq {l:List α} {a:AV} (h:SlV enc w l a) (hl:l≠[]):a=Cr enc w l:=by
 rcases h with h|⟨h,_⟩
 .rw [h];cases l with
  |nil=>grind
  |cons a r=>rfl
 grind
theorem GO (h:∀a,Ak (enc a)=true) (l:List α):okC (BG enc w l)=true:=by
 grind [A5,okC,BG]
theorem SlV.ok {l:List α} {a:AV} (h:SlV enc w l a) (he:∀a,Ak (enc a)=true):okC a=true:=by
 grind [GO,Go.Sx.okC,Go.Sx.SlV]
variable {P:Program} {t e:TypeId} {ti:TypeInfo}
theorem SlV.len {l:List α} {a:AV} (h:SlV enc w l a) (ht:P.underlying t=some (.slice e)):(XOp.len t).run P [a]=some (.int .i64 (l.length:Int)):=by
 rcases h with h|⟨h1,h⟩
 .subst h;show EG P h0 t (.vsl l.length w (Ay enc l))=_;grind [EG]
 .subst h h1;show EG P h0 t .nsl=_;grind [EG]
def SlV.ia {l:List α} {a:AV} (h:SlV enc w l a) (ht:P.underlying t=some (.slice e)) (hi:P.info? e=some ti) (hs:ti.size=w) (hw:∀a,(enc a).length=w) {i:Nat} (hl:i<l.length) (k:IntKind):
  (XOp.iaddr t).run P [a,.int k (i:Int)]=some (.vptr (Ay enc (l.drop i))):=by
 rw [h.eq (λe=>by grind)]
 grind [Bb]
def SlV.arg {l:List α} {a:AV} (h:SlV enc w l a) (hw:∀a,(enc a).length=w):DC w a=some (l.length,Ay enc l):=by
 rcases h with h|⟨h1,h⟩
 .subst h;have:Cu ⟨AD,0,0⟩ (BG enc w l) l.length w=some (Ay enc l):=by
   show CN (Nat.mul l.length w) (Ay enc l)=_;have h:=Lm (Ay enc l) []
   grind [EC]
  show (match Cu ⟨AD,0,0⟩ (BG enc w l) l.length w with|some q=>some (l.length,q)|none=>none)=_;rw [this]
 subst h h1;rfl
def SlV.app {sz bytes:Nat} {enc:α->List AV} (hw:∀a,(enc a).length=sz) (hsz:0<sz) (hb:0<bytes) {l l':List α} {a a':AV} (h:SlV enc sz l a) (h':SlV enc sz l' a') (hl:(l.length+l'.length)*bytes<=1073741824):
  ∃r,(XOp.app sz bytes).run P [a,a']=some r/\SlV enc sz (l++l') r:=by
 have harg:=h'.arg hw;have hl1:l.length+l'.length<=1073741824:=za' (zb' _ hb) hl;have e0:(XOp.app sz bytes).run P [a,a']=En sz bytes a l'.length (Ay enc l'):=by
  grind [Go.Sx.XOp.run]
 rw [e0];unfold En;have hd:decide ((Ay enc l').length=l'.length*sz)=true:=AX (EC hw l');simp only [hd];cases l' with
 |nil=>rw [List.append_nil];rcases h with h|⟨h1,h⟩;subst h;exact ⟨BG enc sz l,by simp_all [BG,EC],.inl rfl⟩;subst h;exact ⟨.nsl,rfl,.inr ⟨h1,rfl⟩⟩
 |cons x r=>
  have c0:∀m:Nat,m=l.length+(x::r).length->(Nat.ble (Nat.mul m bytes) 1073741824&&Nat.ble m 1073741824&&Nat.blt 0 bytes)=true:=λm hm=>(by simp_all);rcases h with h|⟨h1,h⟩;subst h;refine ⟨BG enc sz (l++x::r),?_,.inl rfl⟩;have c1:=c0 (Nat.add l.length (r.length+1)) rfl;have e2:Nat.add l.length (r.length+1)=l.length+(r.length+1):=rfl;rw [e2]at c1;simp only [BG,EC hw,and_self,decide_true,List.length_cons,c1,Ax,Kf,e2]
  .subst h h1;refine ⟨BG enc sz (x::r),?_,.inl rfl⟩
   grind [BG]
def SlV.app1 {sz bytes:Nat} {enc:α->List AV} (hw:∀a,(enc a).length=sz) (hsz:0<sz) (hb:0<bytes) {l:List α} {a:AV} (h:SlV enc sz l a) (x:α) (hl:(l.length+1)*bytes<=1073741824):
  ∃r,(XOp.app sz bytes).run P [a,.agg (enc x)]=some r/\SlV enc sz (l++[x]) r:=by
 obtain ⟨r,h1,h2⟩:=h.app (P:=P) (l':=[x]) hw hsz hb (SlV.v [x]) hl;refine ⟨r,?_,h2⟩;rw [←h1];show (match DC sz (.agg (enc x))with|some (n,l')=>En sz bytes a n l'|none=>none)=(match DC sz (BG enc sz [x])with|some (n,l')=>En sz bytes a n l'|none=>none);rw [(SlV.v [x]).arg hw];have e1:Nat.div (Bp (enc x)) sz=1:=by rw [BW,hw];exact ze' hsz
 grind [DC,Ay]
end
end Go.Sx
namespace Go.Sx
def CG (n:Nat):Bool:=decide (9218868437227405312<n%9223372036854775808)
def Nb (n:Nat):(CG n=true/\∃s q,Ieee.double.read n=.nan s q)\/(CG n=false/\n%9223372036854775808=0/\∃s,Ieee.double.read n=.number s 0 Ieee.double.leastPlace)\/
  (CG n=false/\n%9223372036854775808≠0/\((∃s m i,0<m/\Ieee.double.leastPlace<=i/\Ieee.double.read n=.number s m i)\/∃s,Ieee.double.read n=.infinity s)):=by
 have e1:Ieee.double.signWeight=9223372036854775808:=rfl;have e2:Ieee.double.infRung=9218868437227405312:=rfl;have e3:Ieee.double.binade=4503599627370496:=rfl;unfold Ieee.Format.read CG;simp only [e1,e2,e3];generalize n%9223372036854775808=r;by_cases h1:r<4503599627370496
 .rw [Ad h1];by_cases h0:r=0;simp_all
  grind
 .rw [Ab h1];by_cases h2:r<9218868437227405312
  .rw [Ad h2]
   grind
  .rw [Ab h2];by_cases h3:r=9218868437227405312;simp_all
   .rw [Ab h3]
    grind
theorem iD (n:Nat):(Ieee.double.order n n==some .eq)= !CG n:=by
 unfold Ieee.Format.order;rcases Nb n with ⟨h,s,q,e⟩|⟨h,_,s,e⟩|⟨h,_,⟨s,m,i,hm,hi,e⟩|⟨s,e⟩⟩
 .grind [Ieee.Datum.order]
 .grind [Ieee.Datum.order]
 .simp only [Ieee.Datum.order]
  grind
 grind [Ieee.Datum.order]
def nG (P:Program) (t:TypeId) (cx cy:Bool) (n:Nat):(XOp.bin .neq t cx cy).run P [.flt .f64 n,.flt .f64 n]=some (.bool (CG n)):=by show some (AV.bool (!(Ieee.double.order n n==some .eq)))=_;rw [iD,Bool.not_not]
section
variable {P:Program} {t:TypeId}
theorem ql (a b:List UInt8):Hh a b=decide (a=b):=by
 by_cases h:a=b;simp_all [Ki]
 simp_all [Ki]
def vL_ (cx cy:Bool) (a b:List UInt8):(XOp.bin .neq t cx cy).run P [.str a,.str b]=some (.bool (!decide (a=b))):=by show some (AV.bool (not (Hh a b)))=_;rw [ql]
def HE {s d:TypeId} {ds:TypeDesc} {k j:IntKind} (hs:P.underlying s=some ds) (hd:P.underlying d=some (.int k)) (n:Int):(XOp.conv s d).run P [.int j n]=some (.int k (k.wrap n)):=by
 show GP P h0 s d (.int j n)=_
 grind [GP,Ob,Iv,Km]
end
theorem qS_ (s:Bool) (n drop:Nat):Ieee.Toward.zero.cut s n drop=n/2^drop:=by
 unfold Ieee.Toward.cut;simp only [Bool.toNat_false,Nat.add_zero,Nat.one_shiftLeft];by_cases h:drop<=n.log2+2
 .grind
 rw [Nat.min_eq_right (by omega)];have h1:n<2^(n.log2+1):=Nat.lt_log2_self;have h2:2^(n.log2+1)<=2^(n.log2+2):=zf' (by omega) (by omega);have h3:2^(n.log2+2)<=2^drop:=zf' (by omega) (by omega);rw [Nat.div_eq_of_lt (by omega),Nat.div_eq_of_lt (by omega)]
def Ml (m:Nat) (i:Int):Nat:=(m<<<i.toNat)/2^(-i).toNat
def uy (s:Bool) (m:Nat) (i:Int):(Ieee.Datum.number s m i).toInt .zero=some (if s then -(Ml m i:Int)else (Ml m i:Int)):=by
 grind [Ieee.Datum.toInt,Ieee.Datum.integral,qS_,Ieee.signed,Ml]
def gV (m:Nat) (i:Int) (T:Nat) (hT:i.natAbs<=T):Ml m i*2^T<=m*2^(i+T).toNat:=by
 unfold Ml;rw [Nat.shiftLeft_eq];rcases Int.le_total 0 i with h|h
 .have e1:(-i).toNat=0:=(by omega);have e2:(i+T).toNat=i.toNat+T:=(by omega);rw [e1,e2,Nat.pow_zero,Nat.div_one,Nat.pow_add,Nat.mul_assoc]
  grind
 have e1:i.toNat=0:=(by omega);have e2:T=(-i).toNat+(i+T).toNat:=(by omega);rw [e1,Nat.pow_zero,Nat.mul_one];generalize (i+T).toNat=b at*;rw [e2,Nat.pow_add,←Nat.mul_assoc];exact Nat.mul_le_mul_right _ (Nat.div_mul_le_self ..)
def de {m n:Nat} {i j:Int} (T:Nat) (hi:i.natAbs<=T) (hj:j.natAbs<=T):m<<<(i-min i j).toNat<n<<<(j-min i j).toNat↔m*2^(i+T).toNat<n*2^(j+T).toNat:=by
 have e1:(i+T).toNat=(i-min i j).toNat+(min i j+T).toNat:=by omega
 have e2:(j+T).toNat=(j-min i j).toNat+(min i j+T).toNat:=by omega
 rw [e1,e2,Nat.shiftLeft_eq,Nat.shiftLeft_eq,Nat.pow_add,Nat.pow_add,←Nat.mul_assoc,←Nat.mul_assoc];simp_all [Nat.pow_pos]
def sp_ {m k:Nat} {i j:Int} (hk:(k:Int)=52+j) (h:m<<<(i-min i j).toNat<4503599627370496<<<(j-min i j).toNat):Ml m i<2^k:=by
 have h1:=(de (i.natAbs+j.natAbs) (by omega) (by omega)).1 h;have h2:=gV m i (i.natAbs+j.natAbs) (by omega);have e:4503599627370496*2^(j+(i.natAbs+j.natAbs:Nat)).toNat=2^k*2^(i.natAbs+j.natAbs):=by
  have:(4503599627370496:Nat)=2^52:=(by decide);rw [this,←Nat.pow_add,←Nat.pow_add]
  grind
 rw [e]at h1;exact Nat.lt_of_mul_lt_mul_right (Nat.lt_of_le_of_lt h2 h1)
def tA {m k:Nat} {i j:Int} (hk:(k:Int)=52+j) (h:m<<<(i-min i j).toNat<=4503599627370496<<<(j-min i j).toNat):Ml m i<=2^k:=by
 have h1:¬(4503599627370496*2^(j+(i.natAbs+j.natAbs:Nat)).toNat<m*2^(i+(i.natAbs+j.natAbs:Nat)).toNat):=λhh=>by
  have:=(de (m:=4503599627370496) (n:=m) (i:=j) (j:=i) (i.natAbs+j.natAbs) (by omega) (by omega)).2 hh
  grind
 have h2:=gV m i (i.natAbs+j.natAbs) (by omega);have e:4503599627370496*2^(j+(i.natAbs+j.natAbs:Nat)).toNat=2^k*2^(i.natAbs+j.natAbs):=by
  have:(4503599627370496:Nat)=2^52:=(by decide);rw [this,←Nat.pow_add,←Nat.pow_add]
  grind
 rw [e]at h1;exact Nat.le_of_mul_le_mul_right (za' h2 (Nat.le_of_not_lt h1)) (Nat.pow_pos (by omega))
def zB {b lo hi k:Nat} {j:Int} (hk:(k:Int)=52+j) (hlo:Ieee.double.read lo=.number true 4503599627370496 j) (hhi:Ieee.double.read hi=.number false 4503599627370496 j)
  (h1:Ieee.double.order b lo≠some .lt) (h2:Ieee.double.order b hi=some .lt):∃n:Int,(Ieee.double.read b).toInt .zero=some n/\ -((2^k:Nat):Int)<=n/\n<((2^k:Nat):Int):=by
 unfold Ieee.Format.order at h1 h2;rw [hlo]at h1;rw [hhi]at h2;cases hb:Ieee.double.read b with
 |nan s t=>rw [hb]at h2;cases h2
 |infinity s=>
  rw [hb]at h1 h2;cases s
  .grind [Ieee.Datum.order]
  exact absurd rfl h1
 |number s m i=>
  rw [hb]at h1 h2;simp only [Ieee.Datum.order,A2,ne_eq]at h1 h2;have h2:=Int.compare_eq_lt.1 h2;have h1:¬_:=λhh=>h1 (Int.compare_eq_lt.2 hh);refine ⟨_,uy s m i,?_⟩;cases s with
  |false=>simp only [Ieee.signed,Bool.false_eq_true,if_false]at h2⊢;have:=sp_ hk (m:=m) (i:=i) (j:=j) (by omega);omega
  |true=>
   simp only [Ieee.signed,if_true]at h1⊢;have:=tA hk (m:=m) (i:=i) (j:=j) (by omega)
   grind
def sG {a b:Nat} (ha:CG a=false) (hb:CG b=false):∃o,Ieee.double.order a b=some o:=by
 unfold Ieee.Format.order;rcases Nb a with ⟨h,_⟩|⟨_,_,s,e⟩|⟨_,_,⟨s,m,i,hm,hi,e⟩|⟨s,e⟩⟩
 .grind
 all_goals
  rw [e];rcases Nb b with ⟨h,_⟩|⟨_,_,t,f⟩|⟨_,_,⟨t,n,j,hn,hj,f⟩|⟨t,f⟩⟩
  .grind
  all_goals
   rw [f];exact ⟨_,rfl⟩
theorem dk {n:Nat}:(Ieee.double.read n).isNaN=CG n:=by rcases Nb n with ⟨h,s,q,e⟩|⟨h,_,s,e⟩|⟨h,_,⟨s,m,i,hm,hi,e⟩|⟨s,e⟩⟩;all_goals rw [e,h];rfl
theorem cz (s:Bool) {r:Nat} (h:r<=9218868437227405312):CG (Ieee.double.word s r)=false:=by
 have e1:Ieee.double.signWeight=9223372036854775808:=rfl
 grind [CG,Ieee.Format.word]
def fE (s:Bool) (m:Nat) (i:Int):CG (Ieee.double.nearest s m i)=false:=by have e2:Ieee.double.infRung=9218868437227405312:=rfl;unfold Ieee.Format.nearest;split<;>simp_all [cz,Nat.min_le_right]
def He (b:Nat):Nat:=Ieee.double.write ((Ieee.double.read b).integral .zero)
theorem uK {b:Nat} (h:CG b=false):CG (He b)=false:=by
 unfold He;rcases Nb b with ⟨h',_⟩|⟨_,_,s,e⟩|⟨_,_,⟨s,m,i,hm,hi,e⟩|⟨s,e⟩⟩
 .grind
 rw [e];exact fE ..;rw [e];exact fE ..;rw [e];exact cz s (zg' _)
def rQ {P:Program} {k:IntKind} {x c:Int} (hc:c≠0) (t:TypeId) (cx cy:Bool):Dk P .quo t cx cy (.int k x) (.int k c)=some (.int k (k.wrap (x.tdiv c))):=by show JM P .quo k x k c=_;have hb:Nat.beq (FB k) (FB k)=true:=zc' _;unfold JM;rw [hb];unfold OL;simp only [binOp,Op.intDiv,hc,ne_eq,not_true_eq_false,if_false];rfl
section
variable {P:Program}
def ip {k:IntKind} {x c:Int} (hc:c≠0) (t:TypeId) (cx cy:Bool):(XOp.bin .quo t cx cy).run P [.int k x,.int k c]=some (.int k (k.wrap (x.tdiv c))):=rQ hc t cx cy
def TM {k:IntKind} {x c:Int} (hc:c≠0) (t:TypeId) (cx cy:Bool):(XOp.bin .rem t cx cy).run P [.int k x,.int k c]=some (.int k (x.tmod c)):=jT hc rfl t cx cy
def YL {k:IntKind} {x:Int}:(XOp.un .neg).run P [.int k x]=some (.int k (k.wrap (0-x))):=by
 grind [QS,Iv,Km,XOp.run]
def tD {s d:TypeId} {ds:TypeDesc} {k:FloatKind} {j:IntKind} (hs:P.underlying s=some ds) (hd:P.underlying d=some (.int j)) {b:Nat} {n:Int} (h:(k.decode b).toInt .zero=some n) (h1:j.min<=n) (h2:n<=j.max):(XOp.conv s d).run P [.flt k b]=some (.int j n):=by
 show GP P h0 s d (.flt k b)=_
 grind [GP,Ob]
end
def fv (o:Option Nat):AV:=HN .f64 o
theorem C3 (o:Option Nat):okC (fv o)=true:=by cases o<;>rfl
def DV:Option Nat->Bool
 |none=>true
 |some b=>CG b
def Bw (a b:Option Nat):Option Ordering:=DJ .f64 a b
theorem JW (P:Program) (op:BinOp) (t:TypeId) (cx cy:Bool) (a b:Option Nat):(XOp.bin op t cx cy).run P [fv a,fv b]=Wh op .f64 a b:=by show Dk P op t cx cy (fv a) (fv b)=_;cases a<;>cases b<;>(simp_all [Dk,fv,HN,PA,P1])
theorem rY (a:Option Nat):(Bw a a==some .eq)= !DV a:=by
 cases a with
 |none=>rfl
 |some b=>exact iD b
def yW {a b:Option Nat} (h:DV a=true):Bw a b=none:=by
 cases a with
 |none=>rfl
 |some x=>cases b with
  |none=>rfl
  |some y=>show Ieee.double.order x y=none;unfold Ieee.Format.order;rcases Nb x with ⟨_,s,q,e⟩|⟨h',_⟩|⟨h',_⟩;rw [e];rfl;all_goals grind [DV]
def nI {a b:Option Nat} (h:DV a=false) (h2:DV b=false):∃o,Bw a b=some o:=by
 cases a with
 |none=>cases h
 |some x=>cases b with
  |none=>cases h2
  |some y=>exact sG h h2
def DX:Option Nat->Option Nat
 |none=>none
 |some b=>if CG b=true then none else some (He b)
theorem XJ (a:Option Nat):DV (DX a)=DV a:=by
 cases a with
 |none=>rfl
 |some b=>
  show DV (if CG b=true then none else some (He b))=CG b;by_cases h:CG b=true;rw [Ad h,h];rfl
  .grind [uK,DV]
def ZG (a:Option Nat):Option Int:=match a with
 |none=>none
 |some b=>(Ieee.double.read b).toInt .zero
def N6 {a:Option Nat} {lo hi k:Nat} {j:Int} (hk:(k:Int)=52+j) (hlo:Ieee.double.read lo=.number true 4503599627370496 j) (hhi:Ieee.double.read hi=.number false 4503599627370496 j)
  (h1:Bw a (some lo)≠some .lt) (h2:Bw a (some hi)=some .lt):∃n:Int,ZG a=some n/\ -((2^k:Nat):Int)<=n/\n<((2^k:Nat):Int):=by
 cases a with
 |none=>cases h2
 |some b=>exact zB hk hlo hhi h1 h2
def wm {P:Program} {s d:TypeId} {ds:TypeDesc} {j:IntKind} (hs:P.underlying s=some ds) (hd:P.underlying d=some (.int j)) {a:Option Nat} {n:Int} (h:ZG a=some n) (h1:j.min<=n) (h2:n<=j.max):(XOp.conv s d).run P [fv a]=some (.int j n):=by
 cases a with
 |none=>cases h
 |some b=>exact tD hs hd h h1 h2
section
variable [Gl]
def ZZ (P:Program) (fuel:Nat) (c:VC) (f:FuncId) (ft:FT) (ag:List AV) (H:AHeap) (n:Nat):VT:=match P.funcs[f]? with
 |some fn=>match fn.body with
  |some cd=>match Nat.ble (Bp ag) fn.ntmps&&(Nat.ble fn.ntmps 512&&Nat.beq c.k ft.k)with
   |true=>EN P fn.ntmps fuel (MM P fuel 12) c 0 cd ⟨Dc ag 0 B4,H,n,0,[]⟩ (Pg P fuel (MM P fuel 12) c fn.results.toList ft none) (j4 P fuel (MM P fuel 12) c fn.results.toList ft)
   |false=>.bad
  |none=>.bad
 |none=>.bad
end
section
variable [Gl] {P:Program} {c:VC} {fuel:Nat}
def Dg.callO {ft:FT} {R:Nat->List AV->Prop} {Y0 Y:Sy} {f:FuncId} {ag:List AV} {H:AHeap} (h:AW P ft.k Y f ag H (Dg P ft R Y0)):AW P ft.k Y f ag H (Ny ft (Nat.add 64 ft.ent.nv) Y0 R):=λB pr E w vs hy hg hr hcon=>
 Calls.mono (h B pr E w vs hy hg hr hcon) λe w' he=>by
  obtain ⟨Y',r,⟨b,a,H',j,ws,tp,rfl,h1,h2,h3,h4,hw⟩,E',hle,hy',hres⟩:=he;have hend:∃u,e=(match b with
    |true=>.panicked [{ v:=u,recovered:=false }]
    |false=>.returned u)/\Ac E' a u/\Ao B pr E' H' w':=by
   grind
  obtain ⟨u,he,hcu,hr'⟩:=hend;have hgl:BM E':=hg.leF hle
  let ac:Act:={ tmps:= #[u],defers:=[] }
  have st:St P B pr 1 E' (Ea AK 0 a) H' [] ac w':=⟨⟨rfl,by omega,λt ht=>by
   by_cases e:0=t;subst e;exact hcu
   grind [Fi,Ks,Ac],hgl⟩,hr',rfl⟩
  obtain ⟨E2,hle2,hy2,st2⟩:=hw 1 B pr E' ac w' hy' st;have hcu2:=st2.t.con 0 (by omega);refine ⟨_,_,⟨j,ws,b,tp,h1,h2,h3,h4,rfl,rfl⟩,E2,hle.trans hle2,hy2,?_⟩;cases b with
  |true=>exact ⟨u,he,hcu2,st2.r⟩
  |false=>exact ⟨u,he,hcu2,st2.r⟩
def wx (hm:P.follows .mixedOrders=true) (hc:Ci P (CO P fuel)) {f:FuncId} {ft:FT} {R:Nat->List AV->Prop} {Y0 Y:Sy} {ag:List AV} {H:AHeap} {n:Nat} (hf0:AA Y0 (Nat.add 64 ft.ent.nv)) (hf:Au P c n Y) (hx0:AM (Nat.add 64 ft.ent.nv) Y0 Y) (hn0:Nat.add 64 ft.ent.nv<=n) (h:AB P (QF R) [] Y (ZZ P fuel c f ft ag H n)):
  AW P ft.k Y f ag H (Ny ft (Nat.add 64 ft.ent.nv) Y0 R):=by
 unfold ZZ at h;split at h
 .rename_i fn hfn;split at h
  .rename_i cd hb;split at h
   .rename_i hle;obtain ⟨h1,hle⟩:=Aq hle;obtain ⟨h2,h3⟩:=Aq hle;have h1:ag.length<=fn.ntmps:=(by grind [BW,Nat.ble_eq]);have h2:fn.ntmps<=512:=(by simp_all);have h3:=AE h3;have fin:∀u L Y' S,L.length=S.lv->Au P c S.n Y'->Nat.add 64 ft.ent.nv<=S.n->AM (Nat.add 64 ft.ent.nv) Y0 Y'->AB P (QF R) L Y' (Pg P fuel (MM P fuel 12) c fn.results.toList ft u S)->Jo P c.k fn (Dg P ft R Y0) Y' S.T S.H S.D u:=by
     intro u L Y' S hL hg hn hx h;refine V1 hm hc hL hg h λr n' lv' L' Y2 _ _ _ hx2 _ h=>?_;have hx:=hx.trans hx2 hn;cases r with
     |ret a H=>obtain ⟨j,ws,tp,q1,q2,q3,q4,q5⟩:=Nh (a:=a) rfl rfl hf0 hx ft.exs 0 (λj q hj=>by grind) h;exact ⟨false,a,H,j,ws,tp,rfl,q1,q2,q3,q4,q5⟩
     |pan a H=>obtain ⟨j,ws,tp,q1,q2,q3,q4,q5⟩:=Nh (a:=a) rfl rfl hf0 hx ft.exs 0 (λj q hj=>by grind) h;exact ⟨true,a,H,j,ws,tp,rfl,q1,q2,q3,q4,q5⟩
    refine Dg.callO ?_;rw [←h3];refine SV hm hfn hb ⟨h1,h2,Fu cd (λY' T' H' D' hk=>?_) (λY' r hx=>?_) _ _ _ _ (HA hm hc cd 0 ⟨Dc ag 0 B4,H,n,0,[]⟩ _ _ Y [] rfl hf h)⟩;obtain ⟨n',lv,L',_,q2,q3,hx,q5,h'⟩:=hk;exact fin none L' Y' ⟨T',H',n',lv,D'⟩ q2 q5 (za' hn0 q3) (hx0.trans hx hn0) h'
    .cases r with
     |norm T H D=>exact hx.elim
     |pan v T H D=>obtain ⟨n',lv,L',_,q2,q3,hx,q5,h'⟩:=hx;exact fin (some v) L' Y' ⟨T,H,n',lv,D⟩ q2 q5 (za' hn0 q3) (hx0.trans hx hn0) h'
     |exit id T H D=>obtain ⟨n',lv,L',_,_,_,_,_,h'⟩:=hx;exact h'.elim
     |ret T H D=>obtain ⟨n',lv,L',_,q2,q3,hx,q5,h'⟩:=hx;exact fin none L' Y' ⟨T,H,n',lv,D⟩ q2 q5 (za' hn0 q3) (hx0.trans hx hn0) h'
   exact h.elim
  exact h.elim
 exact h.elim
def K6 (hm:P.follows .mixedOrders=true) (ho:ES P) {f:FuncId} {ft:FT} {vs ex ag:List AV} {H:AHeap} {n1 n:Nat} {R:Nat->List AV->Prop} {t:VT} (hlen:vs.length=ft.ent.nv) (hk:∀Y,Br P c.fc Y) (hn:64+ft.ent.nv+ex.length=n1)
  (hopen:∀(B:World) (pr:Nat->Prop) (E:Ag) (w:World) (us:List Value),(∀(i:Nat) (a:AV),vs[i]? =some a->E.sy (64+i)=some a)->(∀(i:Nat) (a:AV),ex[i]? =some a->E.sy (64+ft.ent.nv+i)=some a)->Ao B pr E (ft.ent.heap 64) w->Ah E (CE 64 (DB ft.ent.slots)) us->Ao B pr E H w/\Ah E ag us)
  (ht:ZZ P n c f ft ag H n1=t) (h:∀Y,AA Y 64->Gl.gt Y.v->AB P (QF R) [] ((Y.puts 64 vs).puts (64+ft.ent.nv) ex) t):CF P f ft vs R:=
 ⟨hlen,λY hf B pr E w us hy hg hr hcon=>by obtain ⟨p1,p2,p3,p4⟩:=hf.puts vs;have hat:=Gj vs hf;rw [hlen]at p1;obtain ⟨q1,q2,q3,q4⟩:=p1.puts ex;have hae:=Gj ex p1;have hgt:Gl.gt Y.v:=Gl.gtm _ _ (λi hi=>by rw [hy.v];grind) hg.2;have hv:∀i a,E.sy i=some a->((Y.puts 64 vs).puts (64+ft.ent.nv) ex).v i=some a:=λi a ha=>(by rw [hy.v]at ha;grind);have hl:∀i l,E.syl i=some l->((Y.puts 64 vs).puts (64+ft.ent.nv) ex).l i=some l:=λi l ha=>(by rw [hy.l]at ha;grind);have hle:E.leF ft.k (E.with ((Y.puts 64 vs).puts (64+ft.ent.nv) ex)):=Ag.with_leF ft.k λi hi=>(by rw [hy.v];exact q4 i hi);have hx:AM (Nat.add 64 ft.ent.nv) (Y.puts 64 vs) ((Y.puts 64 vs).puts (64+ft.ent.nv) ex):=AM.puts ex _ (zg' _);have hr1:=hr.with hv hl;have hc1:=hcon.with hv hl;obtain ⟨hr2,hc2⟩:=hopen B pr (E.with ((Y.puts 64 vs).puts (64+ft.ent.nv) ex)) w us (λi a ha=>q2 _ _ (hat i a ha)) (λi a ha=>hae i a ha) hr1 hc1;have hsem:=wx (c:=c) (fuel:=n) (R:=R) (ag:=ag) (H:=H) (n:=n1) hm (Ma hm ho n) p1 ⟨by grind,hk _⟩ hx (by grind) (by rw [ht];grind);refine Calls.mono (hsem B pr (E.with ((Y.puts 64 vs).puts (64+ft.ent.nv) ex)) w us ⟨rfl,rfl,hy.res⟩ (hg.leF hle) hr2 hc2) λe w' he=>?_;obtain ⟨Y',r,h1,E',h2,h3⟩:=he;exact ⟨Y',r,h1,E',hle.trans h2,h3⟩⟩
omit [Gl]in
def S6 {E:Ag} {i:Nat} {k:IntKind} {n:Int} (hi:E.sy i=some (.int k n)) {v:Value} (h:Ac E (.sym i) v):Ac E (.int k n) v:=by
 grind [Ac,Al]
end
end Go.Sx
