/-
  The evaluator with symbols, with loops by templates and calls by what is known of them.
-/
import Derived.Test.YtmhcemkembijeaaSyN
set_option linter.unusedVariables false
set_option linter.unusedSimpArgs false
namespace Go.Sx

mutual
inductive VT where
  | bad
  | done (v : AV)
  | ite (i : Nat) (a b : VT)
  | lt (op : XOp) (args : List AV) (n : Nat) (m : Option Nat) (t : VT)
  | call (f : FuncId) (args : List AV) (n : Nat) (sh : List (Option Nat)) (t : VT)
  | loop (n j : Nat) (hv : List AV) (bs : VTs)
  | again (lvl j : Nat) (hv : List AV)
inductive VTs where
  | nil
  | cons (nv : Nat) (t : VT) (r : VTs)
end

/-- the cells of some values of known shapes -/
def flat : List (Option Nat) → List AV → Option (List AV)
  | [], [] => some []
  | none :: s, a :: r => match flat s r with
    | some l => some (a :: l)
    | none => none
  | some m :: s, .agg cs :: r => match decide (cs.length = m) with
    | true => match flat s r with
      | some l => some (cs ++ l)
      | none => none
    | false => none
  | _, _ => none
def flatV (sh : List (Option Nat)) (v : AV) : Option (List AV) := match sh with
  | [s] => flat [s] [v]
  | sh => match v with
    | .tup l => flat sh l
    | _ => none
def shapes : Nat → List (Option Nat) → List AV
  | _, [] => []
  | n, none :: s => .sym n :: shapes (Nat.succ n) s
  | n, some m :: s => .agg (symsFrom n m) :: shapes (Nat.add n m) s
def shapeV (n : Nat) (sh : List (Option Nat)) : AV := match sh with
  | [s] => match shapes n [s] with
    | a :: _ => a
    | [] => .tup []
  | sh => .tup (shapes n sh)
def shLen : List (Option Nat) → Nat
  | [] => 0
  | none :: s => Nat.succ (shLen s)
  | some m :: s => Nat.add m (shLen s)

section
variable [Gl]
mutual
def VOK (P : Program) (Q : AV → Prop) : List (Nat → List AV → Prop) → Sy → VT → Prop
  | _, _, .bad => False
  | _, Y, .done v => Q (den Y.v v)
  | L, Y, .ite i a b => ∃ t, Y.v i = some (.bool t) ∧ (t = true → VOK P Q L Y a) ∧ (t = false → VOK P Q L Y b)
  | L, Y, .lt op args n m t => match m with
    | none => ∃ r, op.run P (denL Y.v args) = some r ∧ okC r = true ∧ VOK P Q L (Y.put n r) t
    | some k => ∃ cs, op.run P (denL Y.v args) = some (.agg cs) ∧ cs.length = k ∧ okL cs = true ∧ VOK P Q L (Y.puts n cs) t
  | L, Y, .call f args n sh t => ∃ v vs, Pure P f (denL Y.v args) v ∧ flatV sh v = some vs ∧ okL vs = true ∧ VOK P Q L (Y.puts n vs) t
  | L, Y, .loop n j hv bs => ∃ (Inv : Nat → List AV → Prop) (μ : Nat → List AV → Nat), (∀ j vs, Inv j vs → okL vs = true) ∧ Inv j (denL Y.v hv) ∧ VOKs P Q Inv μ L n 0 Y bs
  | L, Y, .again lvl j hv => ∃ R, L[lvl]? = some R ∧ R j (denL Y.v hv)
def VOKs (P : Program) (Q : AV → Prop) (Inv : Nat → List AV → Prop) (μ : Nat → List AV → Nat) : List (Nat → List AV → Prop) → Nat → Nat → Sy → VTs → Prop
  | _, _, _, _, .nil => True
  | L, n, j, Y, .cons nv t r => (∀ vs, vs.length = nv → Inv j vs → VOK P Q (L ++ [fun j' vs' => Inv j' vs' ∧ μ j' vs' < μ j vs]) (Y.puts n vs) t) ∧ VOKs P Q Inv μ L n (j + 1) Y r
end
end

/-! ### templates: a hole is '.slx j 0 0' -/
/-- a row of symbolic length: its number, the width, the hole, and where the slice is: a slot, or a cell of a row -/
structure TA where
  id : Nat
  sz : Nat
  j : Nat
  loc : Nat
  off : Option Nat
structure Tpl where
  slots : List (Nat × AV)
  rows : List (Nat × List AV)
  next : Nat
  nv : Nat
  acc : List TA := []
  /-- maps: the row, the hole -/
  maps : List (Nat × Nat) := []
abbrev Hints := List (Nat × List Tpl)
mutual
def instA (n : Nat) : AV → AV
  | .slx j z i => match z with
    | 0 => .sym (Nat.add n j)
    | z + 1 => .slx j (z + 1) (Nat.add n i)
  | .vptr cs => .vptr (instL n cs)
  | .vsl a z cs => .vsl a z (instL n cs)
  | .fn f cs => .fn f (instL n cs)
  | .iface t a => .iface t (instA n a)
  | .agg cs => .agg (instL n cs)
  | .tup cs => .tup (instL n cs)
  | a => a
def instL (n : Nat) : List AV → List AV
  | [] => []
  | a :: r => instA n a :: instL n r
end
def instT (n : Nat) : List (Nat × AV) → Tm
  | [] => topq
  | (t, a) :: r => tset (instT n r) t (instA n a)
def instH (n next : Nat) : List (Nat × List AV) → AHeap
  | [] => ⟨hnil, next, top⟩
  | (id, cs) :: r => (instH n next r).set id (.cells (instL n cs))
def instS (n : Nat) (H : AHeap) : List TA → AHeap
  | [] => H
  | t :: r => (instS n H r).set t.id (.syl (Nat.add n t.j))
def instM (n : Nat) (H : AHeap) : List (Nat × Nat) → AHeap
  | [] => H
  | (id, j) :: r => (instM n H r).set id (.mpl (Nat.add n j))
def idsM : List (Nat × Nat) → List Nat → List Nat
  | [], acc => acc
  | (id, _) :: r, acc => id :: idsM r acc
def mapOf (H : AHeap) (id : Nat) : Option AV := match H.get id with
  | some (.map es _) => match symOkL (flatE es) with
    | true => some (.vsl (lenE es) 2 (flatE es))
    | false => none
  | some (.mpl i) => some (.sym i)
  | _ => none
def idsOf : List (Nat × List AV) → List Nat
  | [] => []
  | (id, _) :: r => id :: idsOf r

/- what stands at the holes -/
mutual
def colA : AV → AV → List (Nat × AV) → List (Nat × AV)
  | .slx j z _, a, acc => match z with
    | 0 => (j, a) :: acc
    | _ + 1 => acc
  | .agg ts, .agg cs, acc => colL ts cs acc
  | .tup ts, .tup cs, acc => colL ts cs acc
  | .vptr ts, .vptr cs, acc => colL ts cs acc
  | .vsl _ _ ts, .vsl _ _ cs, acc => colL ts cs acc
  | .fn _ ts, .fn _ cs, acc => colL ts cs acc
  | .iface _ t, .iface _ a, acc => colA t a acc
  | _, _, acc => acc
def colL : List AV → List AV → List (Nat × AV) → List (Nat × AV)
  | t :: ts, a :: r, acc => colA t a (colL ts r acc)
  | _, _, acc => acc
end
def findH : List (Nat × AV) → Nat → Option AV
  | [], _ => none
  | (i, a) :: r, j => match Nat.beq i j with
    | true => some a
    | false => findH r j
def holes (acc : List (Nat × AV)) : Nat → Nat → Option (List AV)
  | _, 0 => some []
  | j, m + 1 => match findH acc j with
    | some a => match holes acc (Nat.succ j) m with
      | some l => some (a :: l)
      | none => none
    | none => none
/-- a row of symbolic length as it is: the template's number, the width, the hole, the value, the row's number -/
structure DA where
  id : Nat
  sz : Nat
  j : Nat
  x : AV
  act : Option Nat
def accOf (H : AHeap) (sz : Nat) (a : AV) : Option (AV × Option Nat) := match a with
  | .nsl => some (.nsl, none)
  | .slx id sz' i => match H.get id with
    | some (.syl k) => match Nat.beq k i && Nat.beq sz' sz with
      | true => some (.sym i, some id)
      | false => none
    | _ => none
  | .sl id off len sz' _ => match H.get id with
    | some (.cells cs) => match Nat.beq off 0 && (Nat.beq sz' sz && (Nat.blt 0 len && (Nat.beq (lenA cs) (Nat.mul len sz) && (symOkL cs && allOne cs)))) with
      | true => some (.vsl len sz cs, some id)
      | false => none
    | _ => none
  | _ => none
def nthL : Nat → List AV → Option AV
  | _, [] => none
  | 0, a :: _ => some a
  | n + 1, _ :: r => nthL n r
def locOf (T : Tm) (H : AHeap) (t : TA) : Option AV := match t.off with
  | none => some (tget T t.loc)
  | some o => match H.get t.loc with
    | some (.cells cs) => nthL o cs
    | _ => none
def accL (T : Tm) (H : AHeap) : List TA → Option (List DA)
  | [] => some []
  | t :: r => match locOf T H t with
    | some a => match accOf H t.sz a with
      | some (x, act) => match accL T H r with
        | some l => some (⟨t.id, t.sz, t.j, x, act⟩ :: l)
        | none => none
      | none => none
    | none => none
def findA' : List DA → Nat → Option DA
  | [], _ => none
  | d :: r, id => match Nat.beq d.id id with
    | true => some d
    | false => findA' r id
def optB : Option Nat → Option Nat → Bool
  | none, none => true
  | some a, some b => Nat.beq a b
  | _, _ => false
mutual
def mA (H : AHeap) (ds : List DA) (ids : List Nat) (hv : List AV) (n : Nat) : AV → AV → Bool
  | .opq, _ => true
  | .sym i, a => Nat.blt i n && beqA (.sym i) a
  | .ptr id off, a => memT id ids && beqA (.ptr id off) a
  | .sl id off len sz cap, a => match a with
    | .sl id' off' len' sz' cap' => memT id ids && (Nat.beq id id' && (Nat.beq off off' && (Nat.beq len len' && (Nat.beq sz sz' && (cap.isNone || cap == cap')))))
    | _ => false
  | .agg ts, a => match a with
    | .agg cs => mL H ds ids hv n ts cs
    | _ => false
  | .tup ts, a => match a with
    | .tup cs => mL H ds ids hv n ts cs
    | _ => false
  | .vptr ts, a => match a with
    | .vptr cs => mL H ds ids hv n ts cs
    | _ => false
  | .vsl len sz ts, a => match a with
    | .vsl len' sz' cs => Nat.beq len len' && (Nat.beq sz sz' && mL H ds ids hv n ts cs)
    | _ => false
  | .fn f ts, a => match a with
    | .fn g cs => Nat.beq f g && mL H ds ids hv n ts cs
    | _ => false
  | .iface t x, a => match a with
    | .iface u y => Nat.beq t u && mA H ds ids hv n x y
    | _ => false
  | .slx j z i, a => match z with
    | 0 => match nthA j hv with
      | some x => beqA x a
      | none => false
    | z + 1 => match findA' ds j with
      | some d => match accOf H (Nat.succ z) a with
        | some (x, act) => Nat.beq d.sz (Nat.succ z) && (Nat.beq d.j i && (beqA d.x x && optB d.act act))
        | none => false
      | none => false
  | .ptx _ _ _ _, _ => false
  | .map id, a => memT id ids && beqA (.map id) a
  | t, a => beqA t a
def mL (H : AHeap) (ds : List DA) (ids : List Nat) (hv : List AV) (n : Nat) : List AV → List AV → Bool
  | [], [] => true
  | t :: ts, a :: r => mA H ds ids hv n t a && mL H ds ids hv n ts r
  | _, _ => false
end

mutual
/-- all its symbols are below n -/
def symLt (n : Nat) : AV → Bool
  | .sym i => Nat.blt i n
  | .vptr cs => symLtL n cs
  | .vsl _ _ cs => symLtL n cs
  | .fn _ cs => symLtL n cs
  | .iface _ a => symLt n a
  | .agg cs => symLtL n cs
  | .tup cs => symLtL n cs
  | _ => true
def symLtL (n : Nat) : List AV → Bool
  | [] => true
  | a :: r => symLt n a && symLtL n r
end

structure VS where
  T : Tm
  H : AHeap
  n : Nat
  lv : Nat
  D : Dfs
inductive VX where
  | exit (id : Nat) (S : VS)
  | ret (S : VS)
  | pan (v : AV) (S : VS)
def VS.x (S : VS) : XS := ⟨S.T, S.H, S.n⟩
def VS.know (S : VS) (i : Nat) (b : Bool) : VS := ⟨mapT (subB i b) S.T, S.H, S.n, S.lv, S.D⟩

def colT (T : Tm) : List (Nat × AV) → List (Nat × AV) → List (Nat × AV)
  | [], acc => acc
  | (t, a) :: r, acc => colA a (tget T t) (colT T r acc)
def colH (H : AHeap) : List (Nat × List AV) → List (Nat × AV) → List (Nat × AV)
  | [], acc => acc
  | (id, cs) :: r, acc => match H.get id with
    | some (.cells l) => colL cs l (colH H r acc)
    | _ => acc
def accH : List DA → List (Nat × AV) → List (Nat × AV)
  | [], acc => acc
  | d :: r, acc => (d.j, d.x) :: accH r acc
def mT (H : AHeap) (ds : List DA) (ids : List Nat) (hv : List AV) (n : Nat) (T : Tm) : List (Nat × AV) → Bool
  | [] => true
  | (t, a) :: r => Nat.blt t 512 && (mA H ds ids hv n a (tget T t) && mT H ds ids hv n T r)
def findN : List (Nat × Nat) → Nat → Option Nat
  | [], _ => none
  | (a, t) :: r, i => match Nat.beq a i with
    | true => some t
    | false => findN r i
/-- the numbers as they are, and the template's -/
def invR : List (Nat × List AV) → List (Nat × Nat) → List (Nat × Nat)
  | [], acc => acc
  | (id, _) :: r, acc => (id, id) :: invR r acc
def invD : List DA → List (Nat × Nat) → List (Nat × Nat)
  | [], acc => acc
  | d :: r, acc => match d.act with
    | some i => (i, d.id) :: invD r acc
    | none => invD r acc
def mH (ds : List DA) (inv : List (Nat × Nat)) (ids : List Nat) (hv : List AV) (n next : Nat) (H : AHeap) : List (Nat × List AV) → Bool
  | [] => true
  | (id, cs) :: r => (match H.get id with
    | some (.cells l) => mL H ds ids hv n cs l
    | _ => false) && (Nat.blt id next && (Nat.blt id top && (optB (findN inv id) (some id) && ((findA' ds id).isNone && mH ds inv ids hv n next H r))))
def mD (inv : List (Nat × Nat)) (hv : List AV) (next : Nat) : List DA → Bool
  | [] => true
  | d :: r => Nat.blt d.id next && (Nat.blt d.id top && ((match nthA d.j hv with
    | some y => beqA y d.x
    | none => false) && ((match d.act with
    | some i => optB (findN inv i) (some d.id)
    | none => true) && mD inv hv next r)))
def Tpl.ids (tp : Tpl) : List Nat := idsM tp.maps (idsOf tp.rows)
/-- the maps' entries -/
def mapL (H : AHeap) : List (Nat × Nat) → List (Nat × AV) → Option (List (Nat × AV))
  | [], acc => some acc
  | (id, j) :: r, acc => match mapOf H id with
    | some x => match mapL H r acc with
      | some l => some ((j, x) :: l)
      | none => none
    | none => none
def invM : List (Nat × Nat) → List (Nat × Nat) → List (Nat × Nat)
  | [], acc => acc
  | (id, _) :: r, acc => (id, id) :: invM r acc
def mM (ds : List DA) (inv : List (Nat × Nat)) (hv : List AV) (next : Nat) (H : AHeap) : List (Nat × Nat) → Bool
  | [] => true
  | (id, j) :: r => (match mapOf H id with
    | some x => match nthA j hv with
      | some y => beqA y x
      | none => false
    | none => false) && (Nat.blt id next && (Nat.blt id top && (optB (findN inv id) (some id) && ((findA' ds id).isNone && mM ds inv hv next H r))))
def Tpl.inv (tp : Tpl) (ds : List DA) : List (Nat × Nat) := invM tp.maps (invD ds (invR tp.rows []))
/-- the state is an instance of the template: by which values -/
def noD : Dfs → Bool
  | [] => true
  | _ => false
def matchT (n : Nat) (tp : Tpl) (S : VS) : Option (List AV) := match accL S.T S.H tp.acc with
  | none => none
  | some ds => match mapL S.H tp.maps (accH ds (colT S.T tp.slots (colH S.H tp.rows []))) with
    | none => none
    | some ms => match holes ms 0 tp.nv with
      | none => none
      | some hv => match noD S.D && (symOkL hv && (allOne hv && (mT S.H ds tp.ids hv n S.T tp.slots && (mH ds (tp.inv ds) tp.ids hv n tp.next S.H tp.rows && (mD (tp.inv ds) hv tp.next ds && (mM ds (tp.inv ds) hv tp.next S.H tp.maps && Nat.ble tp.next top)))))) with
        | true => some hv
        | false => none
/-- values that a template asks for as such, and that are rows of one's own yet: never written from then on -/
def holeRefs (T : Tm) : List (Nat × AV) → List AV
  | [] => []
  | (t, a) :: r => match a with
    | .slx _ z _ => match z with
      | 0 => match symOk (tget T t) with
        | true => holeRefs T r
        | false => tget T t :: holeRefs T r
      | _ + 1 => holeRefs T r
    | _ => holeRefs T r
def vFrz (S : VS) (args : List AV) : VS := let l := reachL 100 S.H args []
  ⟨mapT (frz (onlyH S.H l)) S.T, lessH S.H l, S.n, S.lv, S.D⟩
def frzT (tp : Tpl) (S : VS) : VS := match holeRefs S.T tp.slots with
  | [] => S
  | l => vFrz S l
def matchAny (n : Nat) : List Tpl → Nat → VS → Option (Nat × List AV)
  | [], _, _ => none
  | tp :: r, j, S => match matchT n tp (frzT tp S) with
    | some hv => some (j, hv)
    | none => matchAny n r (Nat.succ j) S
def Tpl.inst (tp : Tpl) (n lv : Nat) : VS := ⟨instT n tp.slots, instM n (instS n (instH n tp.next tp.rows) tp.acc) tp.maps, Nat.add n tp.nv, lv, []⟩
def hintsOf : Hints → Nat → Option (List Tpl)
  | [], _ => none
  | (b, l) :: r, bid => match Nat.beq b bid with
    | true => some l
    | false => hintsOf r bid

section
variable [Gl]
/-- which functions are called by what is known of them, and their results' shapes -/
abbrev Calls0 := List (FuncId × List (Option Nat))
def shOf : Calls0 → FuncId → Option (List (Option Nat))
  | [], _ => none
  | (g, sh) :: r, f => match Nat.beq g f with
    | true => some sh
    | false => shOf r f

structure VC where
  fc : FcT
  cs : Calls0
  hs : Hints

def appVS (P : Program) (S : VS) (o : Oper) : Option (Nat × Nat × XOp × List AV) := match noD S.D with
  | true => appOf P S.T S.H o
  | false => none
def app2VS (P : Program) (S : VS) (o : Oper) : Option (Nat × Nat × XOp × List AV) := match noD S.D with
  | true => appOf2 P S.T S.H o
  | false => none
def mupVS (P : Program) (S : VS) (o : Oper) : Option (Nat × XOp × List AV) := match noD S.D with
  | true => mupOf P S.T S.H o
  | false => none
def vCall (P : Program) (fuel : Nat) (c : VC) (o : Oper) (u : Tm → AV → Tm) (S : VS) (g : FuncId) (args : List AV) (k : VS → VT) : VT := match shOf c.cs g with
  | some sh => match symOkL args with
    | true => .call g args S.n sh (k ⟨u S.T (shapeV S.n sh), S.H, Nat.add S.n (shLen sh), S.lv, S.D⟩)
    | false => match (stage P o).run (vFrz S args).T (vFrz S args).H with
      | some r => match r with
        | .call g' args' => match Nat.beq g' g && symOkL args' with
          | true => .call g args' S.n sh (k ⟨u (vFrz S args).T (shapeV S.n sh), (vFrz S args).H, Nat.add S.n (shLen sh), S.lv, S.D⟩)
          | false => .bad
        | _ => .bad
      | none => .bad
  | none => match callN P fuel g args S.H with
    | some r => match r with
      | .ret a H' => k ⟨u S.T a, H', S.n, S.lv, S.D⟩
      | .pan _ _ => .bad
    | none => .bad
def vLet (P : Program) (c : VC) (u : Tm → AV → Tm) (S : VS) (k : VS → VT) (op : XOp) (args : List AV) : VT := match letSh P op with
  | none => match findF c.fc.b op args with
    | some v => k ⟨u S.T v, S.H, S.n, S.lv, S.D⟩
    | none => .lt op args S.n none (k ⟨u S.T (.sym S.n), S.H, Nat.succ S.n, S.lv, S.D⟩)
  | some m => .lt op args S.n (some m) (k ⟨u S.T (.agg (symsFrom S.n m)), S.H, Nat.add S.n m, S.lv, S.D⟩)
def vStep (P : Program) (fuel : Nat) (c : VC) (o : Oper) (u : Tm → AV → Tm) (S : VS) (X : VX → VT) (k : VS → VT) : VT := match (stage P o).run S.T S.H with
  | some r => match r with
    | .val a H' => k ⟨u S.T a, H', S.n, S.lv, S.D⟩
    | .call g args => vCall P fuel c o u S g args k
    | .dfr g args => k ⟨u S.T (.tup []), S.H, S.n, S.lv, (g, args) :: S.D⟩
    | .pan v => X (.pan v S)
    | _ => .bad
  | none => match pickSym o S.T with
    | some (i, a, b) => .ite i (k ⟨u (S.know i true).T (look (S.know i true).T a), S.H, S.n, S.lv, S.D⟩) (k ⟨u (S.know i false).T (look (S.know i false).T b), S.H, S.n, S.lv, S.D⟩)
    | none => match callX c.fc.x S.T o with
     | some v => k ⟨u S.T v, S.H, S.n, S.lv, S.D⟩
     | none => match appVS P S o with
      | some (id, sz, op, args) => .lt op args S.n none (k ⟨u S.T (.slx S.H.next sz S.n), (S.H.erase id).push (.syl S.n), Nat.succ S.n, S.lv, S.D⟩)
      | none => match app2VS P S o with
      | some (id, sz, op, args) => .lt op args S.n none (k ⟨u S.T (.slx S.H.next sz S.n), (S.H.erase id).push (.syl S.n), Nat.succ S.n, S.lv, S.D⟩)
      | none => match lenX S.T o with
       | some (op, args) => .lt op args S.n none (k ⟨u S.T (.sym S.n), S.H, Nat.succ S.n, S.lv, S.D⟩)
       | none => match mupVS P S o with
       | some (id, op, args) => .lt op args S.n none (k ⟨u S.T (.tup []), S.H.set id (.mpl S.n), Nat.succ S.n, S.lv, S.D⟩)
       | none => match mlenX S.T S.H o with
       | some (op, args) => match isMapT P o with
        | true => .lt op args S.n none (k ⟨u S.T (.sym S.n), S.H, Nat.succ S.n, S.lv, S.D⟩)
        | false => .bad
       | none => match convX S.T S.H o with
       | some (op, args) => .lt op args S.n none (k ⟨u S.T (.sym S.n), S.H, Nat.succ S.n, S.lv, S.D⟩)
       | none => match extX P S.T o with
       | some (op, args) => .lt op args S.n none (k ⟨u S.T (.sym S.n), S.H, Nat.succ S.n, S.lv, S.D⟩)
       | none => match letOf S.T o with
        | some (op, args) => match symOkL args with
          | true => vLet P c u S k op args
          | false => match letOf (vFrz S args).T o with
            | some (op', args') => match symOkL args' with
              | true => vLet P c u (vFrz S args) k op' args'
              | false => .bad
            | none => .bad
        | none => .bad
def vGuard (all : List Oper) (o : Oper) (T : Tm) : Option Bool := match guardC all o with
  | .always => some true
  | .mk g => g T
def vOp (P : Program) (fuel : Nat) (c : VC) (all : List Oper) (o : Oper) (u : Tm → AV → Tm) (X : VX → VT) (next : VS → VT) (S : VS) : VT := match vGuard all o S.T with
  | some t => match t with
    | false => next ⟨u S.T (.tup []), S.H, S.n, S.lv, S.D⟩
    | true => vStep P fuel c o u S X next
  | none => .bad
/-- slices of one's own of symbolic length that are put into a slice: never written from then on -/
def refsB (T : Tm) : List (Nat × Operand) → List AV
  | [] => []
  | (_, x) :: r => match look T x with
    | .slx id z i => .slx id z i :: refsB T r
    | _ => refsB T r
def frzB (o : Oper) (S : VS) : VS := match o.op with
  | .buildSlice _ _ ps => match refsB S.T ps.toList with
    | [] => S
    | a => vFrz S a
  | _ => S
def vOps (P : Program) (N fuel : Nat) (c : VC) (all : List Oper) (X : VX → VT) : List Oper → VS → (VS → VT) → VT
  | [], S, K => K S
  | o :: r, S, K => match putC N o.dst with
    | .bad => .bad
    | .mk u => match guardSym all o S.T with
      | some i => .ite i (vOp P fuel c all o u X (fun S => vOps P N fuel c all X r S K) (S.know i true)) (vOp P fuel c all o u X (fun S => vOps P N fuel c all X r S K) (S.know i false))
      | none => vOp P fuel c all o u X (fun S => vOps P N fuel c all X r S K) (frzB o S)

/-! regions whose order is open: first those that may come up in any order, then those that come behind all of them -/
def isM (x : SI) : Bool := match x.o.op with
  | .alloc _ => true
  | .box _ _ => true
  | .buildSlice _ _ _ => true
  | _ => false
/-- which row a writer changes -/
inductive Tch where
  | none
  | one (id : Nat)
  | all
def touchOf (x : SI) (R : Tm) : Tch := match isM x with
  | true => .none
  | false => match x.o.op with
    | .store _ a _ => match look R a with
      | .ptr id _ => .one id
      | _ => .all
    | _ => .all
def apart (t : Tch) (ids : List Nat) : Bool := match t with
  | .none => true
  | .one id => not (memT id ids)
  | .all => match ids with
    | [] => true
    | _ :: _ => false
structure GW where
  i : Nat
  H : AHeap
  t : Tch
/-- the heap behind the writers that are ahead of it for sure -/
def pickH (bef : Nat) (H : AHeap) : List GW → AHeap
  | [] => H
  | g :: r => match bit bef g.i with
    | true => H
    | false => pickH bef g.H r
/-- those that may come up on either side leave its rows alone -/
def okRd (bef : Nat) (ids : List Nat) : List GW → Bool
  | [] => true
  | g :: r => match bit bef g.i with
    | true => true
    | false => apart g.t ids && okRd bef ids r
def okWr (bef : Nat) (t : Tch) : List (Nat × List Nat) → Bool
  | [] => true
  | (i, ids) :: r => (bit bef i || apart t ids) && okWr bef t r
def rowsIn (H : AHeap) : List Nat → AHeap
  | [] => ⟨hnil, 0, 0⟩
  | id :: r => match H.get id with
    | some b => (rowsIn H r).set id b
    | none => rowsIn H r
def idTop (a : AV) (acc : List Nat) : List Nat := match a with
  | .ptr id _ => id :: acc
  | .sl id _ _ _ _ => id :: acc
  | .map id => id :: acc
  | _ => acc
def idsRd (T : Tm) : List Nat → List Nat
  | [] => []
  | t :: r => idTop (tget T t) (idsRd T r)
def idsOp (x : SI) (T : Tm) : List Nat := match isPu x with
  | true => []
  | false => idsRd T x.rd
def heapOf (x : SI) (S : VS) (gs : List GW) : AHeap := rowsIn (pickH x.bef S.H gs) (idsOp x S.T)
def okTwo (x : SI) (i : Nat) (y : SI) : Bool := match isW x && isW y with
  | true => bit y.bef i
  | false => true
def okTwo1 (x : SI) (i : Nat) : List SI → Bool
  | [] => true
  | y :: r => okTwo x i y && okTwo1 x i r
def okTwos : List SI → Nat → Bool
  | [], _ => true
  | x :: r, i => okTwo1 x i r && okTwos r (Nat.succ i)
def fullB (x : SI) : Nat → Bool
  | 0 => true
  | n + 1 => bit x.bef n && fullB x n
/-- where those begin that come behind all others -/
def tailIf (x : SI) (i n : Nat) : Nat := match Nat.beq n (Nat.succ i) && fullB x i with
  | true => i
  | false => n
def tailAt : List SI → Nat → Nat
  | [], i => i
  | x :: r, i => tailIf x i (tailAt r (Nat.succ i))
def takeS : Nat → List SI → List SI
  | 0, _ => []
  | _ + 1, [] => []
  | n + 1, x :: r => x :: takeS n r
def dropO : Nat → List Oper → List Oper
  | 0, l => l
  | _ + 1, [] => []
  | n + 1, _ :: r => dropO n r
def vDVal (P : Program) (x : SI) (Hx : AHeap) (u : Tm → AV → Tm) (S : VS) (k : VS → VT) : VT := match readV (stage P x.o) (keepT S.T x.rd topq) Hx with
  | some q => k ⟨u S.T q, S.H, S.n, S.lv, S.D⟩
  | none => .bad
def vDW (P : Program) (x : SI) (u : Tm → AV → Tm) (S : VS) (k : VS → VT) : VT := match (stage P x.o).run (keepT S.T x.rd topq) S.H with
  | some r => match r with
    | .val a H' => match isM x with
      | true => match S.H.get S.H.next with
        | none => k ⟨u S.T a, H', S.n, S.lv, S.D⟩
        | some _ => .bad
      | false => k ⟨u S.T a, H', S.n, S.lv, S.D⟩
    | _ => .bad
  | none => .bad
def vDStep (P : Program) (c : VC) (x : SI) (Hx : AHeap) (u : Tm → AV → Tm) (S : VS) (k : VS → VT) : VT := match readV (stage P x.o) (keepT S.T x.rd topq) Hx with
  | some q => k ⟨u S.T q, S.H, S.n, S.lv, S.D⟩
  | none => match (stage P x.o).run (keepT S.T x.rd topq) Hx with
    | some r => match r with
      | .call g args => match shOf c.cs g with
        | some sh => match symOkL args && symLtL S.n args with
          | true => .call g args S.n sh (k ⟨u S.T (shapeV S.n sh), S.H, Nat.add S.n (shLen sh), S.lv, S.D⟩)
          | false => .bad
        | none => .bad
      | _ => .bad
    | none => match pickSym x.o S.T with
      | some (i, _, _) => .ite i (vDVal P x Hx u (S.know i true) k) (vDVal P x Hx u (S.know i false) k)
      | none => match convX (keepT S.T x.rd topq) Hx x.o with
       | some (op, args) => match symLtL S.n args with
         | true => .lt op args S.n none (k ⟨u S.T (.sym S.n), S.H, Nat.succ S.n, S.lv, S.D⟩)
         | false => .bad
       | none => match letOf (keepT S.T x.rd topq) x.o with
        | some (op, args) => match symOkL args && symLtL S.n args with
          | true => match letSh P op with
            | none => .lt op args S.n none (k ⟨u S.T (.sym S.n), S.H, Nat.succ S.n, S.lv, S.D⟩)
            | some m => .lt op args S.n (some m) (k ⟨u S.T (.agg (symsFrom S.n m)), S.H, Nat.add S.n m, S.lv, S.D⟩)
          | false => .bad
        | none => .bad
/-- a row that is made whatever came up ahead: the pointer to it, and what it holds -/
def alVal (P : Program) (x : SI) (nx : Nat) : Option (AV × ABlk) := match x.o.op with
  | .alloc t => match evAlloc P ⟨hnil, nx, Nat.succ nx⟩ t with
    | some p => match p.2.get nx with
      | some k => some (p.1, k)
      | none => none
    | none => none
  | _ => none
/-- the heap with all rows that are made so -/
def alHeap (P : Program) : List SI → AHeap → Option AHeap
  | [], H => some H
  | x :: r, H => match isAl x with
    | false => alHeap P r H
    | true => match H.get H.next with
      | some _ => none
      | none => match H.room with
        | false => none
        | true => match alVal P x H.next with
          | some p => alHeap P r (H.push p.2)
          | none => none
/-- who reads ahead of them does not read them -/
def alChk (bef : Nat) (ids : List Nat) : List SI → Nat → Nat → Bool
  | [], _, _ => true
  | y :: r, i, nx => match isAl y with
    | false => alChk bef ids r (Nat.succ i) nx
    | true => (bit bef i || not (memT nx ids)) && alChk bef ids r (Nat.succ i) (Nat.succ nx)
def alBef (bef : Nat) : List SI → Nat → Bool
  | [], _ => true
  | y :: r, i => match isAl y with
    | false => alBef bef r (Nat.succ i)
    | true => bit bef i && alBef bef r (Nat.succ i)
/-- who writes comes behind all of them -/
def alWrs (l0 : List SI) : List SI → Bool
  | [] => true
  | x :: r => match isW x with
    | false => alWrs l0 r
    | true => alBef x.bef l0 0 && alWrs l0 r
def nxNext (x : SI) (nx : Nat) : Nat := match isAl x with
  | true => Nat.succ nx
  | false => nx
def vDOp (P : Program) (c : VC) (all : List Oper) (l0 : List SI) (n0 nx : Nat) (x : SI) (gs : List GW) (ps : List (Nat × List Nat)) (u : Tm → AV → Tm) (next : VS → VT) (S : VS) : VT := match guardE all x (keepT S.T x.rd topq) with
  | some t => match t with
    | false => next ⟨u S.T (.tup []), S.H, S.n, S.lv, S.D⟩
    | true => match isAl x with
      | true => match alVal P x nx with
        | some p => next ⟨u S.T p.1, S.H, S.n, S.lv, S.D⟩
        | none => .bad
      | false => match isW x with
        | true => match okWr x.bef (touchOf x (keepT S.T x.rd topq)) ps with
          | true => vDW P x u S next
          | false => .bad
        | false => match okRd x.bef (idsOp x S.T) gs && alChk x.bef (idsOp x S.T) l0 0 n0 with
          | true => vDStep P c x (heapOf x S gs) u S next
          | false => .bad
  | none => .bad
def gsNext (x : SI) (i : Nat) (S : VS) (gs : List GW) : List GW := match isW x with
  | true => ⟨i, S.H, touchOf x (keepT S.T x.rd topq)⟩ :: gs
  | false => gs
def psNext (x : SI) (i : Nat) (S : VS) (ps : List (Nat × List Nat)) : List (Nat × List Nat) := match isW x with
  | true => ps
  | false => (i, idsOp x S.T) :: ps
def vDOps (P : Program) (N : Nat) (c : VC) (all : List Oper) (l0 : List SI) (n0 : Nat) : List SI → Nat → Nat → List GW → List (Nat × List Nat) → VS → (VS → VT) → VT
  | [], _, _, _, _, S, K => K S
  | x :: r, i, nx, gs, ps, S, K => match putC N x.o.dst with
    | .bad => .bad
    | .mk u => match guardSym all x.o S.T with
      | some k => .ite k (vDOp P c all l0 n0 nx x gs ps u (fun S' => vDOps P N c all l0 n0 r (Nat.succ i) (nxNext x nx) (gsNext x i (S.know k true) gs) (psNext x i (S.know k true) ps) S' K) (S.know k true)) (vDOp P c all l0 n0 nx x gs ps u (fun S' => vDOps P N c all l0 n0 r (Nat.succ i) (nxNext x nx) (gsNext x i (S.know k false) gs) (psNext x i (S.know k false) ps) S' K) (S.know k false))
      | none => vDOp P c all l0 n0 nx x gs ps u (fun S' => vDOps P N c all l0 n0 r (Nat.succ i) (nxNext x nx) (gsNext x i S gs) (psNext x i S ps) S' K) S
def vDraw (P : Program) (N fuel : Nat) (c : VC) (ops : List Oper) (S : VS) (X : VX → VT) (K : VS → VT) : VT := match plan ops with
  | .mk l _ => match tailAt l 0 with
    | b => match okTwos (takeS b l) 0 && alWrs (takeS b l) (takeS b l) with
      | true => match alHeap P (takeS b l) S.H with
        | some H => vDOps P N c ops (takeS b l) S.H.next (takeS b l) 0 S.H.next [] [] ⟨S.T, H, S.n, S.lv, S.D⟩ fun S => vOps P N fuel c ops X (dropO b ops) S K
        | none => .bad
      | false => .bad
  | .no => .bad

/-- slices of one's own of symbolic length that a region reads at an index: never written from then on -/
def srcD (T : Tm) : List Oper → Nat → AV
  | [], _ => .opq
  | o :: r, t => match o.op with
    | .move x => match o.dst with
      | some d => match Nat.beq d t with
        | true => look T x
        | false => srcD T r t
      | none => srcD T r t
    | _ => srcD T r t
def readD (T : Tm) (all : List Oper) (x i : Operand) : List AV := match x with
  | .tmp b => match srcD T all b with
    | .slx id z k => [.slx id z k]
    | .sl id off len z cap => match i with
      | .tmp j => match srcD T all j with
        | .sym _ => [.sl id off len z cap]
        | _ => []
      | _ => []
    | _ => []
  | _ => []
def putsD (T : Tm) (all : List Oper) : List (Nat × Operand) → List AV
  | [] => []
  | (_, x) :: r => match x with
    | .tmp t => match srcD T all t with
      | .slx id z k => .slx id z k :: putsD T all r
      | _ => putsD T all r
    | _ => putsD T all r
def readsD (T : Tm) (all : List Oper) : List Oper → List AV
  | [] => []
  | o :: r => match o.op with
    | .indexAddr _ x i => appA (readD T all x i) (readsD T all r)
    | .buildSlice _ _ ps => appA (putsD T all ps.toList) (readsD T all r)
    | _ => readsD T all r
def frzD (l : List Oper) (S : VS) : VS := match readsD S.T l l with
  | [] => S
  | a => vFrz S a
def vLoop (b : VS → (VS → VT) → VT) : Nat → VS → VT
  | 0, _ => .bad
  | n + 1, S => b S fun S' => vLoop b n S'
def vAgain (n lvl : Nat) (tps : List Tpl) (S : VS) : VT := match matchAny n tps 0 S with
  | some (j, hv) => .again lvl j hv
  | none => .bad
def vBodies (b : VS → (VS → VT) → VT) (n lvl : Nat) (tps : List Tpl) : List Tpl → VTs
  | [] => .nil
  | tp :: r => .cons tp.nv (b (tp.inst n (Nat.succ lvl)) (vAgain n lvl tps)) (vBodies b n lvl tps r)
def vTpl (b : VS → (VS → VT) → VT) (tps : List Tpl) (S : VS) : VT := match matchAny S.n tps 0 S with
  | some (j, hv) => .loop S.n j hv (vBodies b S.n S.lv tps tps)
  | none => .bad
def vEnd (id : Nat) (K : VS → VT) (X : VX → VT) (r : VX) : VT := match r with
  | .exit id' S => match Nat.beq id' id with
    | true => K S
    | false => X r
  | .ret _ => X r
  | .pan _ _ => X r
def vCode (P : Program) (N fuel : Nat) (c : VC) : Nat → Code → VS → (VS → VT) → (VX → VT) → VT
  | _, .skip, S, K, X => K S
  | _, .label _, S, K, X => K S
  | _, .region _ ops draw, S, K, X => match draw with
    | false => vOps P N fuel c ops.toList X ops.toList S K
    | true => match drawE P (callN P fuel) N ops.toList S.T S.H S.D with
      | some r => match r with
        | .norm T H D => K ⟨T, H, S.n, S.lv, D⟩
        | _ => .bad
      | none => vDraw P N fuel c ops.toList (frzD ops.toList S) X K
  | bid, .seq a b, S, K, X => vCode P N fuel c bid a S (fun S => vCode P N fuel c bid b S K X) X
  | bid, .cond cd a b, S, K, X => match look S.T cd with
    | .bool t => match t with
      | true => vCode P N fuel c bid a S K X
      | false => vCode P N fuel c bid b S K X
    | _ => match symTmp S.T cd with
      | some i => .ite i (vCode P N fuel c bid a (S.know i true) K X) (vCode P N fuel c bid b (S.know i false) K X)
      | none => .bad
  | _, .block id b, S, K, X => vCode P N fuel c id b S K (vEnd id K X)
  | bid, .loop b, S, K, X => match hintsOf c.hs bid with
    | some tps => vTpl (fun S K => vCode P N fuel c bid b S K X) tps S
    | none => vLoop (fun S K => vCode P N fuel c bid b S K X) fuel S
  | _, .exit id, S, K, X => X (.exit id S)
  | _, .ret, S, K, X => X (.ret S)
  | _, _, _, _, _ => .bad

def vDoneV (Q : Option (AV × AHeap)) : VT := match Q with
  | some (a, H) => match snap 100 H a with
    | some v => match symOk v with
      | true => .done v
      | false => .bad
    | none => .bad
  | none => .bad
/-- the end, with what was deferred; u: the panic -/
def vDone (P : Program) (fuel : Nat) (rs : List ResultVar) (u : Option AV) (S : VS) : VT := match leaveE P (callN P fuel) fuel rs S.T S.D S.H u with
  | some r => match r with
    | .ret a H => vDoneV (some (a, H))
    | .pan _ _ => .bad
  | none => .bad
def vRet (P : Program) (fuel : Nat) (rs : List ResultVar) (r : VX) : VT := match r with
  | .ret S => vDone P fuel rs none S
  | .pan v S => vDone P fuel rs (some v) S
  | .exit _ _ => .bad
def vFn (P : Program) (fuel : Nat) (c : VC) (f : FuncId) (args : List AV) (n : Nat) : VT := match P.funcs[f]? with
  | some fn => match fn.body with
    | some cd => match Nat.ble (lenA args) fn.ntmps && Nat.ble fn.ntmps 512 with
      | true => vCode P fn.ntmps fuel c 0 cd ⟨enterT args 0 tnil, H0, n, 0, []⟩ (vDone P fuel fn.results.toList none) (vRet P fuel fn.results.toList)
      | false => .bad
    | none => .bad
  | none => .bad
end
end Go.Sx
