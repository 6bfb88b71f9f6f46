/-
  What operations give at values of known forms; a call of symbols, by its tree.
-/
import Derived.Test.YtelnbodnjmldeaaGreatSyO
import Derived.Test.YtelnbodnjmldeaaGreatSyS
import Derived.Test.YtelnbodnjmldeaaGreatSxX
set_option linter.all false
open Nat renaming le_trans→za',le_mul_of_pos_right→zb',le_refl→zc',beq_refl→zd',div_self→zf',pow_le_pow_right→zg'
open List renaming not_mem_nil→ze'
namespace Go.Sx
theorem aE (Y:Sy) (n:Nat) (a:AV) (i:Nat):(Y.put n a).v i=if i=n then some a else Y.v i:=rfl
section
variable (P:Program) (t:TypeId) (cx cy:Bool) (k:IntKind) (a b:Int)
theorem Ie:Nat.beq (Fi k) (Fi k)=true:=zd' _
def J3 {op:BinOp} {r:AV} (h:Gb op k a b=some r):(XOp.bin op t cx cy).run P [.int k a,.int k b]=some r:=by
 show JG P op k a k b=some r
 grind [JG,Ie]
theorem AX:(XOp.bin .lss t cx cy).run P [.int k a,.int k b]=some (.bool (decide (a<b))):=J3 P t cx cy k a b (by grind [P4,Gb])
theorem Bc:(XOp.bin .gtr t cx cy).run P [.int k a,.int k b]=some (.bool (decide (b<a))):=J3 P t cx cy k a b (by grind [P4,Gb])
theorem Bq:(XOp.bin .leq t cx cy).run P [.int k a,.int k b]=some (.bool (decide (a<=b))):=J3 P t cx cy k a b (by grind [P4,Gb])
theorem A8:(XOp.bin .geq t cx cy).run P [.int k a,.int k b]=some (.bool (decide (b<=a))):=J3 P t cx cy k a b (by grind [P4,Gb])
theorem Am:(XOp.bin .eql t cx cy).run P [.int k a,.int k b]=some (.bool (decide (a=b))):=J3 P t cx cy k a b (by grind [Lf,Gb])
theorem Al:(XOp.bin .neq t cx cy).run P [.int k a,.int k b]=some (.bool (!decide (a=b))):=J3 P t cx cy k a b (by grind [Lf,Gb])
theorem AM:(XOp.bin .add t cx cy).run P [.int k a,.int k b]=some (.int k (k.wrap (a+b))):=J3 P t cx cy k a b (by grind [H5,Ls,Gb])
theorem Bn:(XOp.bin .sub t cx cy).run P [.int k a,.int k b]=some (.int k (k.wrap (a-b))):=J3 P t cx cy k a b (by grind [H5,Ls,Gb])
def F2:(XOp.bin .mul t cx cy).run P [.int k a,.int k b]=some (.int k (k.wrap (a*b))):=J3 P t cx cy k a b (by grind [H5,Ls,Gb])
def ET (x:Bool):(XOp.un .not).run P [.bool x]=some (.bool (!x)):=rfl
variable {P t}
end
def CS {x:Int} (h1: -9223372036854775808<=x) (h2:x<=9223372036854775807):IntKind.i64.wrap x=x:=by simp [IntKind.wrap,IntKind.bits,IntKind.signed];omega
variable [Gl]
def uG {P:Program} (hm:P.follows .mixedOrders=true) (ho:EM P) {f:FuncId} {ft:FT} {vs:List AV} {R:Nat->List AV->Prop} {c:VC} {n:Nat} {t:VT} (hlen:vs.length=ft.ent.nv) (hk:∀Y,AA Y 64->Br P c.fc (Y.puts 64 vs))
  (ht:Wb P n c f ft=t) (h:∀Y,AA Y 64->Gl.gt Y.v->AC P (QF R) [] (Y.puts 64 vs) t):CF P f ft vs R:=
 ⟨hlen,λY hf B pr E w us hy hg hr hcon=>by obtain ⟨p1,_,_,p4⟩:=hf.puts vs;rw [hlen]at p1;have hgt:Gl.gt Y.v:=Gl.gtm _ _ (λi hi=>by rw [hy.v];grind) hg.2;exact vu (c:=c) (fuel:=n) hm (LF hm ho n) ⟨p1,hk Y hf⟩ (by grind) B pr E w us hy hg hr hcon⟩
end Go.Sx
namespace Go.Sx
section
variable [Gl] {P:Program} {Q:AV->Prop} {L:List (Nat->List AV->Prop)} {Y:Sy}
def Aa {op:XOp} {ag:List AV} {n:Nat} {t:VT} {r:AV} (h1:op.run P (An Y.v ag)=some r) (h2:okC r=true) (h3:AC P Q L (Y.put n r) t):AC P Q L Y (.lt op ag n none t):=⟨r,h1,h2,h3⟩
def BV {op:XOp} {ag:List AV} {n k:Nat} {t:VT} {cs:List AV} (h1:op.run P (An Y.v ag)=some (.agg cs)) (hl:cs.length=k) (h2:Ak cs=true) (h3:AC P Q L (Y.puts n cs) t):AC P Q L Y (.lt op ag n (some k) t):=⟨cs,h1,hl,h2,h3⟩
def Ax {i:Nat} {a b:VT} {t:Bool} (h:Y.v i=some (.bool t)) (h1:t=true->AC P Q L Y a) (h2:t=false->AC P Q L Y b):AC P Q L Y (.ite i a b):=⟨t,h,h1,h2⟩
def Aq {f:FuncId} {ag:List AV} {n:Nat} {sh:List (Option Nat)} {t:VT} {v:AV} {vs:List AV} (h1:HL P f (An Y.v ag) v) (h2:Kp sh v=some vs) (h3:Ak vs=true) (h4:AC P Q L (Y.puts n vs) t):AC P Q L Y (.call f ag n sh t):=
 ⟨v,vs,h1,h2,h3,h4⟩
def Ea {k:Dl} {t:VT} (h:k.ok Y) (h1:AC P Q L Y t):AC P Q L Y (.chk k t):=⟨h,h1⟩
def BL {f:FuncId} {ft:FT} {hv:List AV} {n:Nat} {bs:Hp} {R:Nat->List AV->Prop} (h1:CF P f ft (An Y.v hv) R) (h2:Ak (An Y.v hv)=true) (h3:PZ P Q R L (Y.puts n (An Y.v hv)) (Nat.add n ft.ent.nv) 0 bs):AC P Q L Y (.callF f ft hv n bs):=⟨R,h1,h2,h3⟩
def Ai {R:Nat->List AV->Prop} {j:Nat} {hv:List AV} (h1:Ak (An Y.v hv)=true) (h:R j (An Y.v hv)):AC P (QF R) L Y (.done (.tup (.int .i64 (.ofNat j)::hv))):=⟨j,_,rfl,h1,h⟩
def Ap {v:AV} (h:Q (Ar Y.v v)):AC P Q L Y (.done v):=h
def Cb {lvl j:Nat} {hv:List AV} {R:Nat->List AV->Prop} (h1:L[lvl]? =some R) (h2:R j (An Y.v hv)):AC P Q L Y (.again lvl j hv):=⟨R,h1,h2⟩
open Classical in
def Dv {ι:Type} (st:ι->List AV) (p:ι->Prop) (μ:ι->Nat) (i0:ι) (h0:p i0) {n nv:Nat} {hv:List AV} {t:VT} (he:An Y.v hv=st i0) (hok:∀i,p i->Ak (st i)=true)
  (hμ:∀i j,p i->p j->st i=st j->μ i=μ j) (hb:∀i,p i->AC P Q (L++[λ_ vs=>∃i',p i'/\vs=st i'/\μ i'<μ i]) (Y.puts n (st i)) t):AC P Q L Y (.loop n 0 hv (.cons nv t .nil)):=by
 let m:List AV->Nat:=λvs=>if h:∃i,p i/\vs=st i then μ (Classical.choose h)else 0
 have hm:∀i,p i->m (st i)=μ i:=λi hi=>by
  have h:∃j,p j/\st i=st j:=⟨i,hi,rfl⟩
  grind
 refine ⟨λ_ vs=>∃i,p i/\vs=st i,λ_ vs=>m vs,λj vs ⟨i,h1,h2⟩=>by grind,⟨i0,h0,he⟩,λvs hvs hI=>?_,trivial⟩;obtain ⟨i,h1,h2⟩:=hI;subst h2;have e:(λ(_:Nat) (vs':List AV)=>(∃i',p i'/\vs'=st i')/\m vs'<m (st i))=λ_ vs'=>∃i',p i'/\vs'=st i'/\μ i'<μ i:=by
  funext _ vs'
  refine propext ⟨λh=>?_,λh=>?_⟩
  .grind
  .obtain ⟨i',g1,g2,g3⟩:=h;subst g2
   grind
 grind
end
def Yi:∀(n:Nat) (sh:List (Option Nat)),Bm (Fo n sh)=true
 |_,[]=>rfl
 |n,none::s=>by simp only [Fo,Bm,Bh];exact Yi _ s
 |n,some m::s=>by simp only [Fo,Bm,Bh,bQ];exact Yi _ s
theorem aK:∀{sh:List (Option Nat)} {l vs:List AV},flat sh l=some vs->Ak vs=true->Gn l=true
 |[],[],vs,h,_=>rfl
 |none::s,a::r,vs,h,hok=>by unfold flat at h;split at h;rename_i l' hl;cases h;rw [CA]at hok;obtain ⟨k1,k2⟩:=Au hok;simp only [Gn,pB k1,aK hl k2];cases h
 |some m::s,a::r,vs,h,hok=>by have ha:∃cs,a=.agg cs:=(by cases a<;>first|exact ⟨_,rfl⟩|(cases h));obtain ⟨cs,rfl⟩:=ha;simp only [flat]at h;split at h;split at h;rename_i l' hl;cases h;obtain ⟨k1,k2⟩:=Wv hok;simp only [Gn,okI,k1,aK hl k2];cases h;cases h
 |[],_::_,vs,h,_=>by cases h
 |none::_,[],vs,h,_=>by cases h
 |some _::_,[],vs,h,_=>by cases h
def YP {s:Nat->Option AV}:∀(sh:List (Option Nat)) (n:Nat) (l vs:List AV),flat sh l=some vs->(∀i a,vs[i]? =some a->s (n+i)=some a)->An s (Fo n sh)=l
 |[],n,[],vs,h,_=>rfl
 |none::sh,n,a::r,vs,h,hs=>by
  unfold flat at h;split at h
  .rename_i l' hl;cases h;have h0:s n=some a:=(by simpa using hs 0 a rfl);simp only [Fo,An,Ar,h0];rw [YP sh (n+1) r l' hl λi b hb=>by
    have:=hs (i+1) b (by grind)
    grind]
  cases h
 |some m::sh,n,a::r,vs,h,hs=>by
  have ha:∃cs,a=.agg cs:=(by cases a<;>first|exact ⟨_,rfl⟩|(cases h));obtain ⟨cs,rfl⟩:=ha;simp only [flat]at h;split at h
  .rename_i hd;have hd:cs.length=m:=AU hd;subst hd;split at h
   .rename_i l' hl;cases h;show AV.agg (An s (Ae n cs.length))::An s (Fo (n+cs.length) sh)=_;rw [YP sh (n+cs.length) r l' hl λi b hb=>by
     have:=hs (cs.length+i) b (by grind)
     grind]
    rw [den_symsL n cs λi b hb=>hs i b (by
     grind)]
   cases h
  cases h
 |[],_,_::_,vs,h,_=>by cases h
 |none::_,_,[],vs,h,_=>by cases h
 |some _::_,_,[],vs,h,_=>by cases h
where
 den_symsL {s:Nat->Option AV}:∀(n:Nat) (cs:List AV),(∀i a,cs[i]? =some a->s (n+i)=some a)->An s (Ae n cs.length)=cs
 |n,[],_=>rfl
 |n,a::r,h=>by
  have h0:s n=some a:=(by simpa using h 0 a rfl);simp only [List.length_cons,Ae,An,Ar,h0];rw [den_symsL (n+1) r λi b hb=>by
   have:=h (i+1) b (by grind)
   grind]
def Jb [Gl] {P:Program} (hm:P.follows .mixedOrders=true) (ho:EM P) {f:FuncId} {ag ls:List AV} {sh:List (Option Nat)} {v:AV} {c:VC} {n m:Nat} {t:VT} (hfl:flat sh ag=some ls) (hls:Ak ls=true) (hv:BS v=true)
  (hk:∀Y,AA Y 64->Br P c.fc (Y.puts 64 ls)) (hm':64+FH sh=m) (ht:Tt P n c f (Fo 64 sh) m=t) (h:∀Y,AA Y 64->Gl.gt Y.v->AC P (· =v) [] (Y.puts 64 ls) t):HL P f ag v:=
 E9 (args':=Fo 64 sh) (aK hfl hls) hv (Yi _ _) hls (λY hf=>YP sh 64 ag ls hfl λi a ha=>F7 ls hf i a ha) λY hf hg=>
  (lI (c:=c) (n:=m) hm (LF hm ho n) ⟨by have:=(hf.puts ls).1;grind [Vq],hk Y hf⟩ (by grind)).low
def Fb [Gl] {P:Program} (hm:P.follows .mixedOrders=true) (ho:EM P) {f:FuncId} {ag args' ls:List AV} {v:AV} {c:VC} {n m:Nat} {t:VT} (hok:Gn ag=true) (hso:Bm args'=true) (hls:Ak ls=true) (hv:BS v=true)
  (hden:∀Y,AA Y 64->An (Y.puts 64 ls).v args'=ag) (hk:∀Y,AA Y 64->Br P c.fc (Y.puts 64 ls)) (hm':64+ls.length=m) (ht:Tt P n c f args' m=t) (h:∀Y,AA Y 64->Gl.gt Y.v->AC P (· =v) [] (Y.puts 64 ls) t):HL P f ag v:=
 E9 (args':=args') hok hv hso hls hden λY hf hg=>
  (lI (c:=c) (n:=m) hm (LF hm ho n) ⟨by have:=(hf.puts ls).1;grind,hk Y hf⟩ (by grind)).low
def Cn [Gl] {P:Program} (Y:Sy):Br P ⟨[],[]⟩ Y:=⟨λf h=>(ze' h).elim,λf h=>(ze' h).elim⟩
def Ay {α:Type} (enc:α->List AV):List α->List AV
 |[]=>[]
 |a::r=>enc a++Ay enc r
def Cv {α:Type} (enc:α->List AV) (w:Nat) (l:List α):AV:=match l with
 |[]=>.nsl
 |a::r=>.vsl (r.length+1) w (Ay enc (a::r))
section
variable {α:Type} {enc:α->List AV} {w:Nat}
theorem ID:∀a b:List α,Ay enc (a++b)=Ay enc a++Ay enc b
 |[],b=>rfl
 |x::r,b=>by simp only [Bg,Ay,ID r b,Bo]
theorem Ei (hw:∀a,(enc a).length=w):∀l:List α,(Ay enc l).length=l.length*w
 |[]=>by simp [Ay]
 |a::r=>by simp only [Ay,Az,hw,Ei hw r,List.length_cons,Nat.add_mul];omega
theorem bA (hw:∀a,(enc a).length=w):∀(l:List α) (i:Nat),(Ay enc l).drop (i*w)=Ay enc (l.drop i)
 |l,0=>by simp
 |[],i+1=>by simp [Ay]
 |a::r,i+1=>by simp only [Ay,List.drop_succ_cons];rw [←bA hw r i,Nat.add_mul,Nat.one_mul,Nat.add_comm,←List.drop_drop,List.drop_left' (hw a)]
theorem A9 (h:∀a,Ak (enc a)=true):∀l:List α,Ak (Ay enc l)=true
 |[]=>rfl
 |a::r=>okL_join (h a) (A9 h r)
where
 okL_join:∀{a b:List AV},Ak a=true->Ak b=true->Ak (a++b)=true
 |[],b,_,h=>h
 |x::r,b,h1,h2=>by rw [CA]at h1;obtain ⟨k1,k2⟩:=Au h1;rw [List.cons_append,CA,k1,okL_join k2 h2];rfl
theorem Uo (h:∀a,Ak (enc a)=true) (l:List α):okC (Cv enc w l)=true:=by
 cases l with
 |nil=>rfl
 |cons a r=>exact A9 h (a::r)
mutual
theorem L6:∀{a:AV},okC a=true->BS a=true
 | .opq,h=>by simp [okC]at h
 | .bool _,_=>rfl
 | .int _ _,_=>rfl
 | .flt _ _,_=>rfl
 | .nan _,_=>rfl
 | .str _,_=>rfl
 | .nptr,_=>rfl
 | .ptr _ _,h=>by simp [okC]at h
 | .vptr cs,h=>by simp only [okC]at h;simp only [BS];exact Kb h
 | .nsl,_=>rfl
 | .sl ..,h=>by simp [okC]at h
 | .vsl _ _ cs,h=>by simp only [okC]at h;simp only [BS];exact Kb h
 | .nmap,_=>rfl
 | .map _,h=>by simp [okC]at h
 | .nfn,_=>rfl
 | .fn _ cs,h=>by simp only [okC]at h;simp only [BS];exact Kb h
 | .nif,_=>rfl
 | .iface _ a,h=>by simp only [okC]at h;simp only [BS];exact Ws h
 | .agg _,h=>by simp [okC]at h
 | .tup _,h=>by simp [okC]at h
 | .sym _,h=>by simp [okC]at h
 | .slx ..,h=>by simp [okC]at h
 | .ptx ..,h=>by simp [okC]at h
theorem Ws:∀{a:AV},okI a=true->BS a=true
 | .opq,h=>by simp [okI]at h
 | .bool _,_=>rfl
 | .int _ _,_=>rfl
 | .flt _ _,_=>rfl
 | .nan _,_=>rfl
 | .str _,_=>rfl
 | .nptr,_=>rfl
 | .ptr _ _,h=>by simp [okI]at h
 | .vptr cs,h=>by simp only [okI]at h;simp only [BS];exact Kb h
 | .nsl,_=>rfl
 | .sl ..,h=>by simp [okI]at h
 | .vsl _ _ cs,h=>by simp only [okI]at h;simp only [BS];exact Kb h
 | .nmap,_=>rfl
 | .map _,h=>by simp [okI]at h
 | .nfn,_=>rfl
 | .fn _ cs,h=>by simp only [okI]at h;simp only [BS];exact Kb h
 | .nif,_=>rfl
 | .iface _ a,h=>by simp only [okI]at h;simp only [BS];exact Ws h
 | .agg cs,h=>by simp only [okI]at h;simp only [BS];exact Kb h
 | .tup _,h=>by simp [okI]at h
 | .sym _,h=>by simp [okI]at h
 | .slx ..,h=>by simp [okI]at h
 | .ptx ..,h=>by simp [okI]at h
theorem Kb:∀{l:List AV},Ak l=true->Gg l=true
 |[],_=>rfl
 |a::r,h=>by rw [CA]at h;obtain ⟨h1,h2⟩:=Au h;simp only [Gg,L6 h1,Kb h2]
end
variable {P:Program} {t e:TypeId} {ti:TypeInfo}
def SA (ht:P.underlying t=some (.slice e)) (l:List α):(XOp.len t).run P [Cv enc w l]=some (.int .i64 (l.length:Int)):=by
 cases l with
 |nil=>show Ey P h0 t .nsl=_;grind [Ey]
 |cons a r=>show Ey P h0 t (.vsl (r.length+1) w (Ay enc (a::r)))=_;grind [Ey]
theorem Bw (ht:P.underlying t=some (.slice e)) (hi:P.info? e=some ti) (hs:ti.size=w) (hw:∀a,(enc a).length=w) {l:List α} {i:Nat} (h:i<l.length) (k:IntKind):
  (XOp.iaddr t).run P [Cv enc w l,.int k (i:Int)]=some (.vptr (Ay enc (l.drop i))):=by
 cases l with
 |nil=>simp at h
 |cons a r=>
  show Ht P t (.vsl (r.length+1) w _) (.int k (.ofNat i))=_;unfold Ht;have hb:Nat.blt i (r.length+1)=true:=(by simp_all);simp only [ht,hi,idx,hb,hs,Dh]
  grind [bA]
theorem JC:∀(a b:List AV),CJ a.length (a++b)=some a
 |[],b=>rfl
 |x::r,b=>by simp only [List.length_cons,Bg,CJ,JC r b]
def Bz {d:TypeDesc} (ht:P.underlying t=some d) (ha:Iy d=true) (hi:P.info? t=some ti) (hs:ti.size=w) (hw:∀a,(enc a).length=w) {l:List α} {i:Nat} (h:i<l.length):
  (XOp.load t).run P [.vptr (Ay enc (l.drop i))]=some (.agg (enc l[i])):=by
 show Ds P h0 t (.vptr _)=_
 grind [Ds,DB,List.drop_eq_getElem_cons,Ay,JC]
def Wx {d:TypeDesc} (ht:P.underlying t=some d) (ha:Iy d=false) (x:AV) (r:List AV):(XOp.load t).run P [.vptr (x::r)]=some x:=by
 show Ds P h0 t (.vptr _)=_
 grind [Ds,DB,CJ]
def V3 {sz bytes:Nat} (hw:∀a,(enc a).length=sz) (hsz:0<sz) (hb:0<bytes) (l:List α) (a:α) (hl:(l.length+1)*bytes<=1073741824):(XOp.app sz bytes).run P [Cv enc sz l,.agg (enc a)]=some (Cv enc sz (l++[a])):=by
 have h1:Nat.div (Bs (enc a)) sz=1:=by rw [BW,hw];exact zf' hsz
 have hl1:l.length+1<=1073741824:=za' (zb' _ hb) hl;show (match DF sz (.agg (enc a))with|some (n,l')=>El sz bytes (Cv enc sz l) n l'|none=>none)=_;simp only [DF,h1];unfold El;have hd:decide ((enc a).length=1*sz)=true:=by grind
 simp only [hd];cases l with
 |nil=>
  have c1:(Nat.ble (Nat.mul 1 bytes) 1073741824&&Nat.ble 1 1073741824&&Nat.blt 0 bytes)=true:=by simp_all
  grind [Cv,Ay]
 |cons b r=>
  have c1:(Nat.ble (Nat.mul (Nat.add (r.length+1) 1) bytes) 1073741824&&Nat.ble (Nat.add (r.length+1) 1) 1073741824&&Nat.blt 0 bytes)=true:=(by simp_all);have hlen:(Ay enc (b::r)).length=(r.length+1)*sz:=Ei hw (b::r);have e3:Ay enc (b::(r++[a]))=Ay enc (b::r)++enc a:=by
   grind [ID,Ay]
  have e4:(r++[a]).length+1=Nat.add (r.length+1) 1:=(by simp);simp only [Cv,hlen,true_and,decide_true,c1,Bg,e3,e4]
def mR {sz bytes:Nat} (hw:∀a,(enc a).length=sz) (hsz:0<sz) (hb:0<bytes) (l l':List α) (hl:(l.length+l'.length)*bytes<=1073741824):(XOp.app sz bytes).run P [Cv enc sz l,Cv enc sz l']=some (Cv enc sz (l++l')):=by
 have hl1:l.length+l'.length<=1073741824:=za' (zb' _ hb) hl;show (match DF sz (Cv enc sz l')with|some (n,l')=>El sz bytes (Cv enc sz l) n l'|none=>none)=_;have ha:DF sz (Cv enc sz l')=some (l'.length,Ay enc l'):=by
  cases l' with
  |nil=>rfl
  |cons a r=>
   show (match Cx ⟨AE,0,0⟩ (.vsl (r.length+1) sz (Ay enc (a::r))) (r.length+1) sz with|some l=>some (r.length+1,l)|none=>none)=_;have:Cx ⟨AE,0,0⟩ (.vsl (r.length+1) sz (Ay enc (a::r))) (r.length+1) sz=some (Ay enc (a::r)):=by
    show CJ (Nat.mul (r.length+1) sz) _=_;have h:=JC (Ay enc (a::r)) []
    grind [Ei]
   grind
 simp only [ha];unfold El;have hd:decide ((Ay enc l').length=l'.length*sz)=true:=AD (Ei hw l');simp only [hd];cases l with
 |nil=>
  cases l' with
  |nil=>rfl
  |cons a r=>
   have c1:(Nat.ble (Nat.mul (a::r).length bytes) 1073741824&&Nat.ble (a::r).length 1073741824&&Nat.blt 0 bytes)=true:=by simp_all
   grind [Cv]
 |cons b q=>
  cases l' with
  |nil=>have hlen:(Ay enc (b::q)).length=(q.length+1)*sz:=Ei hw (b::q);simp only [Cv,AK,hlen,true_and,decide_true,Cg]
  |cons a r=>
   have c1:(Nat.ble (Nat.mul (Nat.add (q.length+1) (r.length+1)) bytes) 1073741824&&Nat.ble (Nat.add (q.length+1) (r.length+1)) 1073741824&&Nat.blt 0 bytes)=true:=(by simp_all);have hlen:(Ay enc (b::q)).length=(q.length+1)*sz:=Ei hw (b::q);have e3:Ay enc (b::(q++a::r))=Ay enc (b::q)++Ay enc (a::r):=by
    grind [ID]
   have e4:(q++a::r).length+1=Nat.add (q.length+1) (r.length+1):=by
    grind
   simp only [Cv,List.length_cons,hlen,true_and,decide_true,c1,Bg,e3,e4]
end
def Ba {α:Type} (enc:α->List AV) (w:Nat) (l:List α):AV:=.vsl l.length w (Ay enc l)
def SlV {α:Type} (enc:α->List AV) (w:Nat) (l:List α) (a:AV):Prop:=a=Ba enc w l\/(l=[]/\a=.nsl)
section
variable {α:Type} {enc:α->List AV} {w:Nat}
def SlV.of (l:List α):SlV enc w l (Cv enc w l):=by
 cases l with
 |nil=>exact .inr ⟨rfl,rfl⟩
 |cons a r=>exact .inl rfl
theorem SlV.v (l:List α):SlV enc w l (Ba enc w l):=.inl rfl
theorem SlV.eq {l:List α} {a:AV} (h:SlV enc w l a) (hl:l≠[]):a=Cv enc w l:=by
 rcases h with h|⟨h,_⟩
 .rw [h];cases l with
  |nil=>grind
  |cons a r=>rfl
 grind
theorem DD (h:∀a,Ak (enc a)=true) (l:List α):okC (Ba enc w l)=true:=by
 grind [A9,okC,Ba]
theorem SlV.ok {l:List α} {a:AV} (h:SlV enc w l a) (he:∀a,Ak (enc a)=true):okC a=true:=by
 grind [DD,Go.Sx.okC,Go.Sx.SlV]
variable {P:Program} {t e:TypeId} {ti:TypeInfo}
theorem SlV.len {l:List α} {a:AV} (h:SlV enc w l a) (ht:P.underlying t=some (.slice e)):(XOp.len t).run P [a]=some (.int .i64 (l.length:Int)):=by
 rcases h with h|⟨h1,h⟩
 .subst h;show Ey P h0 t (.vsl l.length w (Ay enc l))=_;grind [Ey]
 .subst h h1;show Ey P h0 t .nsl=_;grind [Ey]
def SlV.ia {l:List α} {a:AV} (h:SlV enc w l a) (ht:P.underlying t=some (.slice e)) (hi:P.info? e=some ti) (hs:ti.size=w) (hw:∀a,(enc a).length=w) {i:Nat} (hl:i<l.length) (k:IntKind):
  (XOp.iaddr t).run P [a,.int k (i:Int)]=some (.vptr (Ay enc (l.drop i))):=by
 rw [h.eq (λe=>by grind)]
 grind [Bw]
def cU (ht:P.underlying t=some (.slice e)) (hi:P.info? e=some ti) (hs:ti.size=w) (hw:∀a,(enc a).length=w) {l:List α} {a:AV} (h:SlV enc w l a) {lo hi':Option AV} {i j:Nat} (hlo:EN lo 0=some i) (hhi:EN hi' l.length=some j) (hij:i<=j) (hj:j<=l.length):
  ∃r,IB a (DT P h0 t a lo hi')=some r/\SlV enc w ((l.take j).drop i) r:=by
 rcases h with h|⟨h1,h⟩
 .subst h;refine ⟨Ba enc w ((l.take j).drop i),?_,.inl rfl⟩;show DT P h0 t (.vsl l.length w (Ay enc l)) lo hi'=_;unfold DT;have hb:(Nat.ble i j&&(Nat.ble j l.length&&Nat.beq w ti.size))=true:=by simp_all
  simp only [hlo,ht,hi,hhi,hb,Dh];have hlen:((l.take j).drop i).length=j-i:=(by grind);have e1:(Ay enc l).drop (Nat.mul i w)=Ay enc ((l.take j).drop i)++Ay enc (l.drop j):=by
   grind [bA,ID,List.take_append_drop]
  have e2:CJ (Nat.mul (Nat.sub j i) w) (Ay enc ((l.take j).drop i)++Ay enc (l.drop j))=some (Ay enc ((l.take j).drop i)):=by
   grind [JC,Ei]
  rw [e1,e2];show some (AV.vsl (Nat.sub j i) w _)=some (AV.vsl ((l.take j).drop i).length w _)
  grind
 .subst h h1;have hj0:j=0:=(by grind);have hi0:i=0:=(by omega);subst hj0 hi0;refine ⟨.nsl,?_,.inr ⟨rfl,rfl⟩⟩;show DT P h0 t .nsl lo hi'=_
  grind [DT]
def SlV.slc10 (ht:P.underlying t=some (.slice e)) (hi:P.info? e=some ti) (hs:ti.size=w) (hw:∀a,(enc a).length=w) {l:List α} {a:AV} (h:SlV enc w l a) {k:IntKind} {i:Nat} (hil:i<=l.length):
  ∃r,(XOp.slc t true false).run P [a,.int k (i:Int)]=some r/\SlV enc w (l.drop i) r:=by
 have:=cU ht hi hs hw h (lo:=some (.int k i)) (hi':=none) rfl rfl hil (zc' _)
 grind [Go.Sx.XOp.run]
def SlV.slc01 (ht:P.underlying t=some (.slice e)) (hi:P.info? e=some ti) (hs:ti.size=w) (hw:∀a,(enc a).length=w) {l:List α} {a:AV} (h:SlV enc w l a) {k:IntKind} {j:Nat} (hj:j<=l.length):
  ∃r,(XOp.slc t false true).run P [a,.int k (j:Int)]=some r/\SlV enc w (l.take j) r:=by
 have:=cU ht hi hs hw h (lo:=none) (hi':=some (.int k j)) rfl rfl (Nat.zero_le _) hj
 grind [Go.Sx.XOp.run]
def SlV.arg {l:List α} {a:AV} (h:SlV enc w l a) (hw:∀a,(enc a).length=w):DF w a=some (l.length,Ay enc l):=by
 rcases h with h|⟨h1,h⟩
 .subst h;have:Cx ⟨AE,0,0⟩ (Ba enc w l) l.length w=some (Ay enc l):=by
   show CJ (Nat.mul l.length w) (Ay enc l)=_;have h:=JC (Ay enc l) []
   grind [Ei]
  show (match Cx ⟨AE,0,0⟩ (Ba enc w l) l.length w with|some q=>some (l.length,q)|none=>none)=_;rw [this]
 subst h h1;rfl
def SlV.app {sz bytes:Nat} {enc:α->List AV} (hw:∀a,(enc a).length=sz) (hsz:0<sz) (hb:0<bytes) {l l':List α} {a a':AV} (h:SlV enc sz l a) (h':SlV enc sz l' a') (hl:(l.length+l'.length)*bytes<=1073741824):
  ∃r,(XOp.app sz bytes).run P [a,a']=some r/\SlV enc sz (l++l') r:=by
 have harg:=h'.arg hw;have hl1:l.length+l'.length<=1073741824:=za' (zb' _ hb) hl;have e0:(XOp.app sz bytes).run P [a,a']=El sz bytes a l'.length (Ay enc l'):=by
  grind [Go.Sx.XOp.run]
 rw [e0];unfold El;have hd:decide ((Ay enc l').length=l'.length*sz)=true:=AD (Ei hw l');simp only [hd];cases l' with
 |nil=>rw [List.append_nil];rcases h with h|⟨h1,h⟩;subst h;exact ⟨Ba enc sz l,by simp_all [Ba,Ei],.inl rfl⟩;subst h;exact ⟨.nsl,rfl,.inr ⟨h1,rfl⟩⟩
 |cons x r=>
  have c0:∀m:Nat,m=l.length+(x::r).length->(Nat.ble (Nat.mul m bytes) 1073741824&&Nat.ble m 1073741824&&Nat.blt 0 bytes)=true:=λm hm=>(by simp_all);rcases h with h|⟨h1,h⟩;subst h;refine ⟨Ba enc sz (l++x::r),?_,.inl rfl⟩;have c1:=c0 (Nat.add l.length (r.length+1)) rfl;have e2:Nat.add l.length (r.length+1)=l.length+(r.length+1):=rfl;rw [e2]at c1;simp only [Ba,Ei hw,and_self,decide_true,List.length_cons,c1,Az,ID,e2]
  .subst h h1;refine ⟨Ba enc sz (x::r),?_,.inl rfl⟩
   grind [Ba]
def SlV.app1 {sz bytes:Nat} {enc:α->List AV} (hw:∀a,(enc a).length=sz) (hsz:0<sz) (hb:0<bytes) {l:List α} {a:AV} (h:SlV enc sz l a) (x:α) (hl:(l.length+1)*bytes<=1073741824):
  ∃r,(XOp.app sz bytes).run P [a,.agg (enc x)]=some r/\SlV enc sz (l++[x]) r:=by
 obtain ⟨r,h1,h2⟩:=h.app (P:=P) (l':=[x]) hw hsz hb (SlV.v [x]) hl;refine ⟨r,?_,h2⟩;rw [←h1];show (match DF sz (.agg (enc x))with|some (n,l')=>El sz bytes a n l'|none=>none)=(match DF sz (Ba enc sz [x])with|some (n,l')=>El sz bytes a n l'|none=>none);rw [(SlV.v [x]).arg hw];have e1:Nat.div (Bs (enc x)) sz=1:=by rw [BW,hw];exact zf' hsz
 grind [DF,Ay]
end
end Go.Sx
namespace Go.Sx
def Cp (n:Nat):Bool:=decide (9218868437227405312<n%9223372036854775808)
def Nk (n:Nat):(Cp n=true/\∃s q,Ieee.double.read n=.nan s q)\/(Cp n=false/\n%9223372036854775808=0/\∃s,Ieee.double.read n=.number s 0 Ieee.double.leastPlace)\/
  (Cp n=false/\n%9223372036854775808≠0/\((∃s m i,0<m/\Ieee.double.leastPlace<=i/\Ieee.double.read n=.number s m i)\/∃s,Ieee.double.read n=.infinity s)):=by
 have e1:Ieee.double.signWeight=9223372036854775808:=rfl;have e2:Ieee.double.infRung=9218868437227405312:=rfl;have e3:Ieee.double.binade=4503599627370496:=rfl;unfold Ieee.Format.read Cp;simp only [e1,e2,e3];generalize n%9223372036854775808=r;by_cases h1:r<4503599627370496
 .rw [Ad h1];by_cases h0:r=0;simp_all
  grind
 .rw [Ab h1];by_cases h2:r<9218868437227405312
  .rw [Ad h2]
   grind
  .rw [Ab h2];by_cases h3:r=9218868437227405312;simp_all
   .rw [Ab h3]
    grind
theorem jB (n:Nat):(Ieee.double.order n n==some .eq)= !Cp n:=by
 unfold Ieee.Format.order;rcases Nk n with ⟨h,s,q,e⟩|⟨h,_,s,e⟩|⟨h,_,⟨s,m,i,hm,hi,e⟩|⟨s,e⟩⟩
 .grind [Ieee.Datum.order]
 .grind [Ieee.Datum.order]
 .simp only [Ieee.Datum.order]
  grind
 grind [Ieee.Datum.order]
def Xc (P:Program) (t:TypeId) (cx cy:Bool) (n:Nat):(XOp.bin .neq t cx cy).run P [.flt .f64 n,.flt .f64 n]=some (.bool (Cp n)):=by show some (AV.bool (!(Ieee.double.order n n==some .eq)))=_;rw [jB,Bool.not_not]
section
variable {P:Program} {t:TypeId}
theorem ry (a b:List UInt8):G8 a b=decide (a=b):=by
 by_cases h:a=b;simp_all [JZ]
 simp_all [JZ]
def xu (cx cy:Bool) (a b:List UInt8):(XOp.bin .neq t cx cy).run P [.str a,.str b]=some (.bool (!decide (a=b))):=by show some (AV.bool (not (G8 a b)))=_;rw [ry]
def Hb {s d:TypeId} {ds:TypeDesc} {k j:IntKind} (hs:P.underlying s=some ds) (hd:P.underlying d=some (.int k)) (n:Int):(XOp.conv s d).run P [.int j n]=some (.int k (k.wrap n)):=by
 show Gw P h0 s d (.int j n)=_
 grind [Gw,OY,H5,Ls]
end
theorem qT_ (s:Bool) (n drop:Nat):Ieee.Toward.zero.cut s n drop=n/2^drop:=by
 unfold Ieee.Toward.cut;simp only [Bool.toNat_false,Nat.add_zero,Nat.one_shiftLeft];by_cases h:drop<=n.log2+2
 .grind
 rw [Nat.min_eq_right (by omega)];have h1:n<2^(n.log2+1):=Nat.lt_log2_self;have h2:2^(n.log2+1)<=2^(n.log2+2):=zg' (by omega) (by omega);have h3:2^(n.log2+2)<=2^drop:=zg' (by omega) (by omega);rw [Nat.div_eq_of_lt (by omega),Nat.div_eq_of_lt (by omega)]
def ML (m:Nat) (i:Int):Nat:=(m<<<i.toNat)/2^(-i).toNat
def yP (s:Bool) (m:Nat) (i:Int):(Ieee.Datum.number s m i).toInt .zero=some (if s then -(ML m i:Int)else (ML m i:Int)):=by
 grind [Ieee.Datum.toInt,Ieee.Datum.integral,qT_,Ieee.signed,ML]
def mO (m:Nat) (i:Int) (T:Nat) (hT:i.natAbs<=T):ML m i*2^T<=m*2^(i+T).toNat:=by
 unfold ML;rw [Nat.shiftLeft_eq];rcases Int.le_total 0 i with h|h
 .have e1:(-i).toNat=0:=(by omega);have e2:(i+T).toNat=i.toNat+T:=(by omega);rw [e1,e2,Nat.pow_zero,Nat.div_one,Nat.pow_add,Nat.mul_assoc]
  grind
 have e1:i.toNat=0:=(by omega);have e2:T=(-i).toNat+(i+T).toNat:=(by omega);rw [e1,Nat.pow_zero,Nat.mul_one];generalize (i+T).toNat=b at*;rw [e2,Nat.pow_add,←Nat.mul_assoc];exact Nat.mul_le_mul_right _ (Nat.div_mul_le_self ..)
def fL {m n:Nat} {i j:Int} (T:Nat) (hi:i.natAbs<=T) (hj:j.natAbs<=T):m<<<(i-min i j).toNat<n<<<(j-min i j).toNat↔m*2^(i+T).toNat<n*2^(j+T).toNat:=by
 have e1:(i+T).toNat=(i-min i j).toNat+(min i j+T).toNat:=by omega
 have e2:(j+T).toNat=(j-min i j).toNat+(min i j+T).toNat:=by omega
 rw [e1,e2,Nat.shiftLeft_eq,Nat.shiftLeft_eq,Nat.pow_add,Nat.pow_add,←Nat.mul_assoc,←Nat.mul_assoc];simp_all [Nat.pow_pos]
def wU {m k:Nat} {i j:Int} (hk:(k:Int)=52+j) (h:m<<<(i-min i j).toNat<4503599627370496<<<(j-min i j).toNat):ML m i<2^k:=by
 have h1:=(fL (i.natAbs+j.natAbs) (by omega) (by omega)).1 h;have h2:=mO m i (i.natAbs+j.natAbs) (by omega);have e:4503599627370496*2^(j+(i.natAbs+j.natAbs:Nat)).toNat=2^k*2^(i.natAbs+j.natAbs):=by
  have:(4503599627370496:Nat)=2^52:=(by decide);rw [this,←Nat.pow_add,←Nat.pow_add]
  grind
 rw [e]at h1;exact Nat.lt_of_mul_lt_mul_right (Nat.lt_of_le_of_lt h2 h1)
def rD {m k:Nat} {i j:Int} (hk:(k:Int)=52+j) (h:m<<<(i-min i j).toNat<=4503599627370496<<<(j-min i j).toNat):ML m i<=2^k:=by
 have h1:¬(4503599627370496*2^(j+(i.natAbs+j.natAbs:Nat)).toNat<m*2^(i+(i.natAbs+j.natAbs:Nat)).toNat):=λhh=>by
  have:=(fL (m:=4503599627370496) (n:=m) (i:=j) (j:=i) (i.natAbs+j.natAbs) (by omega) (by omega)).2 hh
  grind
 have h2:=mO m i (i.natAbs+j.natAbs) (by omega);have e:4503599627370496*2^(j+(i.natAbs+j.natAbs:Nat)).toNat=2^k*2^(i.natAbs+j.natAbs):=by
  have:(4503599627370496:Nat)=2^52:=(by decide);rw [this,←Nat.pow_add,←Nat.pow_add]
  grind
 rw [e]at h1;exact Nat.le_of_mul_le_mul_right (za' h2 (Nat.le_of_not_lt h1)) (Nat.pow_pos (by omega))
def uw {b lo hi k:Nat} {j:Int} (hk:(k:Int)=52+j) (hlo:Ieee.double.read lo=.number true 4503599627370496 j) (hhi:Ieee.double.read hi=.number false 4503599627370496 j)
  (h1:Ieee.double.order b lo≠some .lt) (h2:Ieee.double.order b hi=some .lt):∃n:Int,(Ieee.double.read b).toInt .zero=some n/\ -((2^k:Nat):Int)<=n/\n<((2^k:Nat):Int):=by
 unfold Ieee.Format.order at h1 h2;rw [hlo]at h1;rw [hhi]at h2;cases hb:Ieee.double.read b with
 |nan s t=>rw [hb]at h2;cases h2
 |infinity s=>
  rw [hb]at h1 h2;cases s
  .grind [Ieee.Datum.order]
  exact absurd rfl h1
 |number s m i=>
  rw [hb]at h1 h2;simp only [Ieee.Datum.order,A6,ne_eq]at h1 h2;have h2:=Int.compare_eq_lt.1 h2;have h1:¬_:=λhh=>h1 (Int.compare_eq_lt.2 hh);refine ⟨_,yP s m i,?_⟩;cases s with
  |false=>simp only [Ieee.signed,Bool.false_eq_true,if_false]at h2⊢;have:=wU hk (m:=m) (i:=i) (j:=j) (by omega);omega
  |true=>
   simp only [Ieee.signed,if_true]at h1⊢;have:=rD hk (m:=m) (i:=i) (j:=j) (by omega)
   grind
def vH {a b:Nat} (ha:Cp a=false) (hb:Cp b=false):∃o,Ieee.double.order a b=some o:=by
 unfold Ieee.Format.order;rcases Nk a with ⟨h,_⟩|⟨_,_,s,e⟩|⟨_,_,⟨s,m,i,hm,hi,e⟩|⟨s,e⟩⟩
 .grind
 all_goals
  rw [e];rcases Nk b with ⟨h,_⟩|⟨_,_,t,f⟩|⟨_,_,⟨t,n,j,hn,hj,f⟩|⟨t,f⟩⟩
  .grind
  all_goals
   rw [f];exact ⟨_,rfl⟩
theorem lB {n:Nat}:(Ieee.double.read n).isNaN=Cp n:=by rcases Nk n with ⟨h,s,q,e⟩|⟨h,_,s,e⟩|⟨h,_,⟨s,m,i,hm,hi,e⟩|⟨s,e⟩⟩;all_goals rw [e,h];rfl
theorem nz (s:Bool) {r:Nat} (h:r<=9218868437227405312):Cp (Ieee.double.word s r)=false:=by
 have e1:Ieee.double.signWeight=9223372036854775808:=rfl
 grind [Cp,Ieee.Format.word]
def iw (s:Bool) (m:Nat) (i:Int):Cp (Ieee.double.nearest s m i)=false:=by have e2:Ieee.double.infRung=9218868437227405312:=rfl;unfold Ieee.Format.nearest;split<;>simp_all [nz,Nat.min_le_right]
def G7 (b:Nat):Nat:=Ieee.double.write ((Ieee.double.read b).integral .zero)
theorem sF {b:Nat} (h:Cp b=false):Cp (G7 b)=false:=by
 unfold G7;rcases Nk b with ⟨h',_⟩|⟨_,_,s,e⟩|⟨_,_,⟨s,m,i,hm,hi,e⟩|⟨s,e⟩⟩
 .grind
 rw [e];exact iw ..;rw [e];exact iw ..;rw [e];exact nz s (zc' _)
def s5_ {P:Program} {k:IntKind} {x c:Int} (hc:c≠0) (t:TypeId) (cx cy:Bool):Dj P .quo t cx cy (.int k x) (.int k c)=some (.int k (k.wrap (x.tdiv c))):=by show JG P .quo k x k c=_;have hb:Nat.beq (Fi k) (Fi k)=true:=zd' _;unfold JG;rw [hb];unfold M5;simp only [binOp,Op.intDiv,hc,ne_eq,not_true_eq_false,if_false];rfl
section
variable {P:Program}
def dj {k:IntKind} {x c:Int} (hc:c≠0) (t:TypeId) (cx cy:Bool):(XOp.bin .quo t cx cy).run P [.int k x,.int k c]=some (.int k (k.wrap (x.tdiv c))):=s5_ hc t cx cy
def S7 {k:IntKind} {x c:Int} (hc:c≠0) (t:TypeId) (cx cy:Bool):(XOp.bin .rem t cx cy).run P [.int k x,.int k c]=some (.int k (x.tmod c)):=gL hc rfl t cx cy
def Xn {k:IntKind} {x:Int}:(XOp.un .neg).run P [.int k x]=some (.int k (k.wrap (0-x))):=by
 grind [RK,H5,Ls,XOp.run]
def yB {s d:TypeId} {ds:TypeDesc} {k:FloatKind} {j:IntKind} (hs:P.underlying s=some ds) (hd:P.underlying d=some (.int j)) {b:Nat} {n:Int} (h:(k.decode b).toInt .zero=some n) (h1:j.min<=n) (h2:n<=j.max):(XOp.conv s d).run P [.flt k b]=some (.int j n):=by
 show Gw P h0 s d (.flt k b)=_
 grind [Gw,OY]
end
def fv (o:Option Nat):AV:=In .f64 o
theorem CY (o:Option Nat):okC (fv o)=true:=by cases o<;>rfl
def DZ:Option Nat->Bool
 |none=>true
 |some b=>Cp b
def BD (a b:Option Nat):Option Ordering:=DL .f64 a b
theorem JK (P:Program) (op:BinOp) (t:TypeId) (cx cy:Bool) (a b:Option Nat):(XOp.bin op t cx cy).run P [fv a,fv b]=UF op .f64 a b:=by show Dj P op t cx cy (fv a) (fv b)=_;cases a<;>cases b<;>(simp_all [Dj,fv,In,PH,PQ])
theorem xQ (a:Option Nat):(BD a a==some .eq)= !DZ a:=by
 cases a with
 |none=>rfl
 |some b=>exact jB b
def yW {a b:Option Nat} (h:DZ a=true):BD a b=none:=by
 cases a with
 |none=>rfl
 |some x=>cases b with
  |none=>rfl
  |some y=>show Ieee.double.order x y=none;unfold Ieee.Format.order;rcases Nk x with ⟨_,s,q,e⟩|⟨h',_⟩|⟨h',_⟩;rw [e];rfl;all_goals grind [DZ]
def kL {a b:Option Nat} (h:DZ a=false) (h2:DZ b=false):∃o,BD a b=some o:=by
 cases a with
 |none=>cases h
 |some x=>cases b with
  |none=>cases h2
  |some y=>exact vH h h2
def DX:Option Nat->Option Nat
 |none=>none
 |some b=>if Cp b=true then none else some (G7 b)
theorem Ww (a:Option Nat):DZ (DX a)=DZ a:=by
 cases a with
 |none=>rfl
 |some b=>
  show DZ (if Cp b=true then none else some (G7 b))=Cp b;by_cases h:Cp b=true;rw [Ad h,h];rfl
  .grind [sF,DZ]
def Wf (a:Option Nat):Option Int:=match a with
 |none=>none
 |some b=>(Ieee.double.read b).toInt .zero
def Oj {a:Option Nat} {lo hi k:Nat} {j:Int} (hk:(k:Int)=52+j) (hlo:Ieee.double.read lo=.number true 4503599627370496 j) (hhi:Ieee.double.read hi=.number false 4503599627370496 j)
  (h1:BD a (some lo)≠some .lt) (h2:BD a (some hi)=some .lt):∃n:Int,Wf a=some n/\ -((2^k:Nat):Int)<=n/\n<((2^k:Nat):Int):=by
 cases a with
 |none=>cases h2
 |some b=>exact uw hk hlo hhi h1 h2
def up_ {P:Program} {s d:TypeId} {ds:TypeDesc} {j:IntKind} (hs:P.underlying s=some ds) (hd:P.underlying d=some (.int j)) {a:Option Nat} {n:Int} (h:Wf a=some n) (h1:j.min<=n) (h2:n<=j.max):(XOp.conv s d).run P [fv a]=some (.int j n):=by
 cases a with
 |none=>cases h
 |some b=>exact yB hs hd h h1 h2
section
variable [Gl]
def ZW (P:Program) (fuel:Nat) (c:VC) (f:FuncId) (ft:FT) (ag:List AV) (H:AHeap) (n:Nat):VT:=match P.funcs[f]? with
 |some fn=>match fn.body with
  |some cd=>match Nat.ble (Bs ag) fn.ntmps&&(Nat.ble fn.ntmps 512&&Nat.beq c.k ft.k)with
   |true=>ER P fn.ntmps fuel (L5 P fuel 12) c 0 cd ⟨C6 ag 0 B6,H,n,0,[]⟩ (Nz P fuel (L5 P fuel 12) c fn.results.toList ft none) (d6 P fuel (L5 P fuel 12) c fn.results.toList ft)
   |false=>.bad
  |none=>.bad
 |none=>.bad
end
section
variable [Gl] {P:Program} {c:VC} {fuel:Nat}
def Da.callO {ft:FT} {R:Nat->List AV->Prop} {Y0 Y:Sy} {f:FuncId} {ag:List AV} {H:AHeap} (h:A0 P ft.k Y f ag H (Da P ft R Y0)):A0 P ft.k Y f ag H (Oi ft (Nat.add 64 ft.ent.nv) Y0 R):=λB pr E w vs hy hg hr hcon=>
 Calls.mono (h B pr E w vs hy hg hr hcon) λe w' he=>by
  obtain ⟨Y',r,⟨b,a,H',j,ws,tp,rfl,h1,h2,h3,h4,hw⟩,E',hle,hy',hres⟩:=he;have hend:∃u,e=(match b with
    |true=>.panicked [{ v:=u,recovered:=false }]
    |false=>.returned u)/\Ac E' a u/\As B pr E' H' w':=by
   grind
  obtain ⟨u,he,hcu,hr'⟩:=hend;have hgl:BQ E':=hg.leF hle
  let ac:Act:={ tmps:= #[u],defers:=[] }
  have st:St P B pr 1 E' (D9 AP 0 a) H' [] ac w':=⟨⟨rfl,by omega,λt ht=>by
   by_cases e:0=t;subst e;exact hcu
   grind [Fm,K2,Ac],hgl⟩,hr',rfl⟩
  obtain ⟨E2,hle2,hy2,st2⟩:=hw 1 B pr E' ac w' hy' st;have hcu2:=st2.t.con 0 (by omega);refine ⟨_,_,⟨j,ws,b,tp,h1,h2,h3,h4,rfl,rfl⟩,E2,hle.trans hle2,hy2,?_⟩;cases b with
  |true=>exact ⟨u,he,hcu2,st2.r⟩
  |false=>exact ⟨u,he,hcu2,st2.r⟩
def rX (hm:P.follows .mixedOrders=true) (hc:Cj P (CL P fuel)) {f:FuncId} {ft:FT} {R:Nat->List AV->Prop} {Y0 Y:Sy} {ag:List AV} {H:AHeap} {n:Nat} (hf0:AA Y0 (Nat.add 64 ft.ent.nv)) (hf:Av P c n Y) (hx0:AR (Nat.add 64 ft.ent.nv) Y0 Y) (hn0:Nat.add 64 ft.ent.nv<=n) (h:AC P (QF R) [] Y (ZW P fuel c f ft ag H n)):
  A0 P ft.k Y f ag H (Oi ft (Nat.add 64 ft.ent.nv) Y0 R):=by
 unfold ZW at h;split at h
 .rename_i fn hfn;split at h
  .rename_i cd hb;split at h
   .rename_i hle;obtain ⟨h1,hle⟩:=Au hle;obtain ⟨h2,h3⟩:=Au hle;have h1:ag.length<=fn.ntmps:=(by grind [BW,Nat.ble_eq]);have h2:fn.ntmps<=512:=(by simp_all);have h3:=AF h3;have fin:∀u L Y' S,L.length=S.lv->Av P c S.n Y'->Nat.add 64 ft.ent.nv<=S.n->AR (Nat.add 64 ft.ent.nv) Y0 Y'->AC P (QF R) L Y' (Nz P fuel (L5 P fuel 12) c fn.results.toList ft u S)->I6 P c.k fn (Da P ft R Y0) Y' S.T S.H S.D u:=by
     intro u L Y' S hL hg hn hx h;refine Up hm hc hL hg h λr n' lv' L' Y2 _ _ _ hx2 _ h=>?_;have hx:=hx.trans hx2 hn;cases r with
     |ret a H=>obtain ⟨j,ws,tp,q1,q2,q3,q4,q5⟩:=Ol (a:=a) rfl rfl hf0 hx ft.exs 0 (λj q hj=>by grind) h;exact ⟨false,a,H,j,ws,tp,rfl,q1,q2,q3,q4,q5⟩
     |pan a H=>obtain ⟨j,ws,tp,q1,q2,q3,q4,q5⟩:=Ol (a:=a) rfl rfl hf0 hx ft.exs 0 (λj q hj=>by grind) h;exact ⟨true,a,H,j,ws,tp,rfl,q1,q2,q3,q4,q5⟩
    refine Da.callO ?_;rw [←h3];refine UQ hm hfn hb ⟨h1,h2,Fs cd (λY' T' H' D' hk=>?_) (λY' r hx=>?_) _ _ _ _ (Hf hm hc cd 0 ⟨C6 ag 0 B6,H,n,0,[]⟩ _ _ Y [] rfl hf h)⟩;obtain ⟨n',lv,L',_,q2,q3,hx,q5,h'⟩:=hk;exact fin none L' Y' ⟨T',H',n',lv,D'⟩ q2 q5 (za' hn0 q3) (hx0.trans hx hn0) h'
    .cases r with
     |norm T H D=>exact hx.elim
     |pan v T H D=>obtain ⟨n',lv,L',_,q2,q3,hx,q5,h'⟩:=hx;exact fin (some v) L' Y' ⟨T,H,n',lv,D⟩ q2 q5 (za' hn0 q3) (hx0.trans hx hn0) h'
     |exit id T H D=>obtain ⟨n',lv,L',_,_,_,_,_,h'⟩:=hx;exact h'.elim
     |ret T H D=>obtain ⟨n',lv,L',_,q2,q3,hx,q5,h'⟩:=hx;exact fin none L' Y' ⟨T,H,n',lv,D⟩ q2 q5 (za' hn0 q3) (hx0.trans hx hn0) h'
   exact h.elim
  exact h.elim
 exact h.elim
def Ll (hm:P.follows .mixedOrders=true) (ho:EM P) {f:FuncId} {ft:FT} {vs ex ag:List AV} {H:AHeap} {n1 n:Nat} {R:Nat->List AV->Prop} {t:VT} (hlen:vs.length=ft.ent.nv) (hk:∀Y,Br P c.fc Y) (hn:64+ft.ent.nv+ex.length=n1)
  (hopen:∀(B:World) (pr:Nat->Prop) (E:Ag) (w:World) (us:List Value),(∀(i:Nat) (a:AV),vs[i]? =some a->E.sy (64+i)=some a)->(∀(i:Nat) (a:AV),ex[i]? =some a->E.sy (64+ft.ent.nv+i)=some a)->As B pr E (ft.ent.heap 64) w->Ah E (CB 64 (DE ft.ent.slots)) us->As B pr E H w/\Ah E ag us)
  (ht:ZW P n c f ft ag H n1=t) (h:∀Y,AA Y 64->Gl.gt Y.v->AC P (QF R) [] ((Y.puts 64 vs).puts (64+ft.ent.nv) ex) t):CF P f ft vs R:=
 ⟨hlen,λY hf B pr E w us hy hg hr hcon=>by obtain ⟨p1,p2,p3,p4⟩:=hf.puts vs;have hat:=F7 vs hf;rw [hlen]at p1;obtain ⟨q1,q2,q3,q4⟩:=p1.puts ex;have hae:=F7 ex p1;have hgt:Gl.gt Y.v:=Gl.gtm _ _ (λi hi=>by rw [hy.v];grind) hg.2;have hv:∀i a,E.sy i=some a->((Y.puts 64 vs).puts (64+ft.ent.nv) ex).v i=some a:=λi a ha=>(by rw [hy.v]at ha;grind);have hl:∀i l,E.syl i=some l->((Y.puts 64 vs).puts (64+ft.ent.nv) ex).l i=some l:=λi l ha=>(by rw [hy.l]at ha;grind);have hle:E.leF ft.k (E.with ((Y.puts 64 vs).puts (64+ft.ent.nv) ex)):=Ag.with_leF ft.k λi hi=>(by rw [hy.v];exact q4 i hi);have hx:AR (Nat.add 64 ft.ent.nv) (Y.puts 64 vs) ((Y.puts 64 vs).puts (64+ft.ent.nv) ex):=AR.puts ex _ (zc' _);have hr1:=hr.with hv hl;have hc1:=hcon.with hv hl;obtain ⟨hr2,hc2⟩:=hopen B pr (E.with ((Y.puts 64 vs).puts (64+ft.ent.nv) ex)) w us (λi a ha=>q2 _ _ (hat i a ha)) (λi a ha=>hae i a ha) hr1 hc1;have hsem:=rX (c:=c) (fuel:=n) (R:=R) (ag:=ag) (H:=H) (n:=n1) hm (LF hm ho n) p1 ⟨by grind,hk _⟩ hx (by grind) (by rw [ht];grind);refine Calls.mono (hsem B pr (E.with ((Y.puts 64 vs).puts (64+ft.ent.nv) ex)) w us ⟨rfl,rfl,hy.res⟩ (hg.leF hle) hr2 hc2) λe w' he=>?_;obtain ⟨Y',r,h1,E',h2,h3⟩:=he;exact ⟨Y',r,h1,E',hle.trans h2,h3⟩⟩
omit [Gl]in
def SK {E:Ag} {i:Nat} {k:IntKind} {n:Int} (hi:E.sy i=some (.int k n)) {v:Value} (h:Ac E (.sym i) v):Ac E (.int k n) v:=by
 grind [Ac,Aj]
end
end Go.Sx
