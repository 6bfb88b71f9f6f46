/-
  The evaluator with symbols: what it comes to is a tree of what must be known.
-/
import Derived.Test.YtmhcemkembijeaaSyB
set_option linter.unusedVariables false
set_option linter.unusedSimpArgs false
namespace Go.Sx

/-! ### values -/
/-- a slice's elements' cells, as its value -/
def slOf (sz : Nat) (cs : List AV) : AV := match cs with
  | [] => .nsl
  | a :: r => .vsl ((a :: r).length / sz) sz (a :: r)
/-- what is appended: how many, and the cells -/
def appArg (sz : Nat) (b : AV) : Option (Nat × List AV) := match b with
  | .agg l => some (Nat.div (lenA l) sz, l)
  | b => match srcLen b with
    | some n => match srcCells ⟨hnil, 0, 0⟩ b n sz with
      | some l => some (n, l)
      | none => none
    | none => none
def appV (sz bytes : Nat) (a : AV) (n : Nat) (l : List AV) : Option AV := match decide (l.length = n * sz) with
  | false => none
  | true => match a with
    | .nsl => match n with
      | 0 => some .nsl
      | _ => match Nat.ble (Nat.mul n bytes) 1073741824 && Nat.ble n 1073741824 && Nat.blt 0 bytes with
        | true => some (.vsl n sz l)
        | false => none
    | .vsl len sz' cs => match decide (sz' = sz ∧ cs.length = len * sz) with
      | false => none
      | true => match n with
        | 0 => some (.vsl len sz' cs)
        | _ => match Nat.ble (Nat.mul (Nat.add len n) bytes) 1073741824 && Nat.ble (Nat.add len n) 1073741824 && Nat.blt 0 bytes with
          | true => some (.vsl (Nat.add len n) sz (cs ++ l))
          | false => none
    | _ => none

/-- a map's entries, written -/
def mputF (d : TypeDesc) (k v : AV) : List AV → Option (List AV)
  | [] => some [k, v]
  | [_] => none
  | q :: x :: r => match keyEq d k q with
    | some true => some (q :: v :: r)
    | some false => match mputF d k v r with
      | some l => some (q :: x :: l)
      | none => none
    | none => none
def mputV (d : TypeDesc) (m k v : AV) : Option AV := match keyOk d k with
  | true => match m with
    | .vsl n z cs => match Nat.beq z 2 && Nat.beq (Nat.mul n 2) (lenA cs) with
      | true => match mputF d k v cs with
        | some l => some (.vsl (Nat.div (lenA l) 2) 2 l)
        | none => none
      | false => none
    | _ => none
  | false => none
inductive XOp where
  | bin (op : BinOp) (t : TypeId) (cx cy : Bool)
  | un (op : UnOp)
  | conv (s d : TypeId)
  | idx (t : TypeId)
  | iaddr (t : TypeId)
  | faddr (s : TypeId) (f : Nat)
  | load (t : TypeId)
  | fld (s : TypeId) (f : Nat)
  | slc (t : TypeId) (lo hi : Bool)
  | len (t : TypeId)
  | nilc
  | app (sz bytes : Nat)
  | mm (mx : Bool)
  | mput (t : TypeId)
  | mlen
  | ext (f : FuncId)

def h0 : AHeap := ⟨hnil, 0, 0⟩
/-- reads no heap -/
def offHeap : AV → Bool
  | .ptr _ _ | .sl _ _ _ _ _ | .map _ | .slx _ _ _ | .ptx _ _ _ _ => false
  | _ => true
def guardH (x : AV) (r : Option AV) : Option AV := match offHeap x with
  | true => r
  | false => none
def XOp.run (P : Program) : XOp → List AV → Option AV
  | .bin op t cx cy, [x, y] => evBin P op t cx cy x y
  | .un op, [x] => evNot op x
  | .conv s d, [x] => guardH x (evConv P h0 s d x)
  | .idx t, [x, i] => evIndexS P t x i
  | .iaddr t, [x, i] => evIndexAddr P t x i
  | .faddr s f, [x] => evField P s x f
  | .load t, [x] => guardH x (evLoad P h0 t x)
  | .fld s f, [x] => evFieldV P s x f
  | .slc t false false, [x] => guardH x (evSlice P h0 t x none none)
  | .slc t true false, [x, a] => guardH x (evSlice P h0 t x (some a) none)
  | .slc t false true, [x, b] => guardH x (evSlice P h0 t x none (some b))
  | .slc t true true, [x, a, b] => guardH x (evSlice P h0 t x (some a) (some b))
  | .len t, [x] => guardH x (evLen P h0 t x)
  | .nilc, [x] => match x with
    | .vptr cs => some (.vptr cs)
    | _ => none
  | .mm mx, [x, y] => match x with
    | .int k a => match y with
      | .int k' b => match Nat.beq (kix k) (kix k') with
        | true => some (.int k (match mx with | true => max a b | false => min a b))
        | false => none
      | _ => none
    | _ => none
  | .mput t, [m, k, v] => match P.underlying t with
    | some (.map kt _) => match P.underlying kt with
      | some d => mputV d m k v
      | none => none
    | _ => none
  | .mlen, [m] => match m with
    | .vsl n z cs => match Nat.beq z 2 with
      | true => some (.int .i64 (.ofNat n))
      | false => none
    | _ => none
  | .ext f, [x] => match plain x with
    | some u => match pureRun P (callFunc f #[u]) with
      | some (.value v) => some (ofV v)
      | _ => none
    | none => none
  | .app sz bytes, [a, b] => match appArg sz b with
    | some (n, l) => appV sz bytes a n l
    | none => none
  | _, _ => none

theorem evLoad_off {P : Program} {H : AHeap} {t : TypeId} {x : AV} (h : offHeap x = true) : evLoad P H t x = evLoad P h0 t x := by
  have hc : ∀ n, cellsAt H x n = cellsAt h0 x n := fun n => by cases x <;> first | rfl | (simp [offHeap] at h)
  unfold evLoad; simp only [hc]
theorem evLen_off {P : Program} {H : AHeap} {t : TypeId} {x : AV} (h : offHeap x = true) : evLen P H t x = evLen P h0 t x := by
  unfold evLen
  cases P.underlying t with
  | none => rfl
  | some d => cases d <;> first | rfl | (cases x <;> first | rfl | (simp [offHeap] at h))
theorem srcCells_off {H : AHeap} {x : AV} (h : offHeap x = true) (n sz : Nat) : srcCells H x n sz = srcCells h0 x n sz := by
  cases x <;> first | rfl | (simp [offHeap] at h)
theorem evConv_off {P : Program} {H : AHeap} {s d : TypeId} {x : AV} (h : offHeap x = true) : evConv P H s d x = evConv P h0 s d x := by
  unfold evConv evBytesStr
  cases x <;> first | rfl | (simp [offHeap] at h)
theorem evSlice_off {P : Program} {H : AHeap} {t : TypeId} {x : AV} (h : offHeap x = true) (lo hi : Option AV) : evSlice P H t x lo hi = evSlice P h0 t x lo hi := by
  unfold evSlice
  cases x <;> first | rfl | (simp [offHeap] at h)
theorem guardH_some {x : AV} {r : Option AV} {a : AV} (h : guardH x r = some a) : offHeap x = true ∧ r = some a := by
  unfold guardH at h
  split at h
  · rename_i h1; exact ⟨h1, h⟩
  · cases h

inductive Tree where
  | bad
  | done (v : AV)
  | ite (i : Nat) (a b : Tree)
  | lt (op : XOp) (args : List AV) (n : Nat) (m : Option Nat) (t : Tree)

def TreeOK (P : Program) (Q : AV → Prop) : Sy → Tree → Prop
  | _, .bad => False
  | Y, .done v => Q (den Y.v v)
  | Y, .ite i a b => ∃ t, Y.v i = some (.bool t) ∧ (t = true → TreeOK P Q Y a) ∧ (t = false → TreeOK P Q Y b)
  | Y, .lt op args n m t => match m with
    | none => ∃ r, op.run P (denL Y.v args) = some r ∧ okC r = true ∧ TreeOK P Q (Y.put n r) t
    | some k => ∃ cs, op.run P (denL Y.v args) = some (.agg cs) ∧ cs.length = k ∧ okL cs = true ∧ TreeOK P Q (Y.puts n cs) t

structure XS where
  T : Tm
  H : AHeap
  n : Nat
inductive XX where
  | exit (id : Nat) (S : XS)
  | ret (S : XS)

def mapQ {α β : Type} (f : α → β) (q : Q8 α) : Q8 β := Q8.casesOn q fun a b c d e g h i => ⟨f a, f b, f c, f d, f e, f g, f h, f i⟩
def mapT (f : AV → AV) (T : Tm) : Tm := mapQ (mapQ (mapQ f)) T
theorem at8_mapQ {α β : Type} (f : α → β) (q : Q8 α) : ∀ i : Nat, Q8.at8 i (mapQ f q) = f (Q8.at8 i q)
  | 0 => by cases q; rfl
  | 1 => by cases q; rfl
  | 2 => by cases q; rfl
  | 3 => by cases q; rfl
  | 4 => by cases q; rfl
  | 5 => by cases q; rfl
  | 6 => by cases q; rfl
  | n + 7 => by cases q; rfl
theorem tget_mapT (f : AV → AV) (T : Tm) (t : Nat) : tget (mapT f T) t = f (tget T t) := by
  rw [tget_at, tget_at]
  unfold mapT
  rw [at8_mapQ, at8_mapQ, at8_mapQ]
/-- the symbol is known -/
def subB (i : Nat) (b : Bool) (a : AV) : AV := match a with
  | .sym j => match Nat.beq j i with
    | true => .bool b
    | false => .sym j
  | a => a
def XS.know (S : XS) (i : Nat) (b : Bool) : XS := ⟨mapT (subB i b) S.T, S.H, S.n⟩

variable [Gl]
def letOf (T : Tm) (o : Oper) : Option (XOp × List AV) := match o.op with
  | .binOp op t x y _ => some (.bin op t (isConst x) (isConst y), [look T x, look T y])
  | .unOp op _ x => some (.un op, [look T x])
  | .convert s d x => some (.conv s d, [look T x])
  | .index t x i => some (.idx t, [look T x, look T i])
  | .indexAddr t x i => some (.iaddr t, [look T x, look T i])
  | .fieldAddr s x f => some (.faddr s f, [look T x])
  | .load t a => some (.load t, [look T a])
  | .field s x f => some (.fld s f, [look T x])
  | .slice t x lo hi mx => match mx with
    | none => match lo with
      | none => match hi with
        | none => some (.slc t false false, [look T x])
        | some b => some (.slc t false true, [look T x, look T b])
      | some a => match hi with
        | none => some (.slc t true false, [look T x, look T a])
        | some b => some (.slc t true true, [look T x, look T a, look T b])
    | some _ => none
  | .nilCheck x => some (.nilc, [look T x])
  | .call c => match c.callee with
    | .builtin b => match b with
      | .len => match c.args.toList, c.argTypes.toList with
        | [x], [t] => some (.len t, [look T x])
        | _, _ => none
      | .max => match c.args.toList with
        | [x, y] => some (.mm true, [look T x, look T y])
        | _ => none
      | .min => match c.args.toList with
        | [x, y] => some (.mm false, [look T x, look T y])
        | _ => none
      | _ => none
    | _ => none
  | _ => none
omit [Gl] in
/-- how many cells, where it is no value of one cell -/
def aggN (P : Program) (t : TypeId) : Option Nat := match P.underlying t with
  | some d => match aggB d with
    | true => match P.info? t with
      | some i => some i.size
      | none => none
    | false => none
  | none => none
omit [Gl] in
def letSh (P : Program) (op : XOp) : Option Nat := match op with
  | .load t => aggN P t
  | .fld s f => match P.underlying s with
    | some (.struct fields) => match fields[f]? with
      | some fl => aggN P fl.type
      | none => none
    | _ => none
  | _ => none

def symAt (a : AV) : Option Nat := match a with
  | .sym i => some i
  | _ => none
def guardSym (all : List Oper) (o : Oper) (T : Tm) : Option Nat := match o.guard with
  | none => none
  | some (j, _) => match nthOp all j with
    | some oj => match oj.dst with
      | some d => symAt (tget T d)
      | none => none
    | none => none
/-- the slot's symbol -/
def symTmp (T : Tm) (x : Operand) : Option Nat := match x with
  | .tmp t => match Nat.blt t 512 with
    | true => symAt (tget T t)
    | false => none
  | _ => none
def pickSym (o : Oper) (T : Tm) : Option (Nat × Operand × Operand) := match o.op with
  | .pick c a b => match symTmp T c with
    | some i => some (i, a, b)
    | none => none
  | _ => none

/-- what an operation on a symbol is known to give -/
structure Fact where
  o : BinOp
  /-- is the symbol ahead? -/
  l : Bool
  i : Nat
  c : AV
  v : AV
def Fact.has (f : Fact) (o : BinOp) (x y : AV) : Bool := decide (o = f.o) && (match f.l with
  | true => beqA x (.sym f.i) && beqA y f.c
  | false => beqA y (.sym f.i) && beqA x f.c)
def findF : List Fact → XOp → List AV → Option AV
  | [], _, _ => none
  | f :: r, op, args => match op, args with
    | .bin o _ _ _, [x, y] => match f.has o x y with
      | true => some f.v
      | false => findF r op args
    | _, _ => none
def Fact.ok (P : Program) (f : Fact) (a : AV) : Prop := ∀ t cx cy, (match f.l with
  | true => evBin P f.o t cx cy a f.c
  | false => evBin P f.o t cx cy f.c a) = some f.v
/-- a call of a function without a body, and what it is known to give -/
structure XF where
  f : FuncId
  args : List AV
  v : AV
structure FcT where
  b : List Fact
  x : List XF
def fc0 : FcT := ⟨[], []⟩
def findX : List XF → FuncId → List AV → Option AV
  | [], _, _ => none
  | q :: r, f, args => match Nat.beq f q.f && beqL args q.args with
    | true => some q.v
    | false => findX r f args
def callX (x : List XF) (T : Tm) (o : Oper) : Option AV := match o.op with
  | .call c => match c.callee with
    | .value f => match f with
      | .func id => findX x id (mapA (look T) c.args.toList)
      | _ => none
    | _ => none
  | _ => none
def XOk (P : Program) (Y : Sy) (q : XF) : Prop := ∀ (B : World) (pr : Nat → Prop) (E : Env) (H : AHeap) (w : World) (vs : List Value), (∀ i, i < 64 → E.sy i = Y.v i) → GlOk E → Rel B pr E H w → ConL E q.args vs →
  ∃ u, (callFunc q.f ⟨vs⟩).run P w = .ok (.value u) w ∧ Con E q.v u
def KnownF (P : Program) (fc : FcT) (Y : Sy) : Prop := (∀ f ∈ fc.b, okC f.v = true ∧ okC f.c = true ∧ ∃ a, Y.v f.i = some a ∧ f.ok P a) ∧ ∀ q ∈ fc.x, XOk P Y q

def xStep (P : Program) (fuel : Nat) (fc : FcT) (o : Oper) (u : Tm → AV → Tm) (S : XS) (k : XS → Tree) : Tree := match (stage P o).run S.T S.H with
  | some r => match r with
    | .val a H' => k ⟨u S.T a, H', S.n⟩
    | .call g args => match callN P fuel g args S.H with
      | some r => match r with
        | .ret a H' => k ⟨u S.T a, H', S.n⟩
        | .pan _ _ => .bad
      | none => .bad
    | _ => .bad
  | none => match pickSym o S.T with
    | some (i, a, b) => .ite i (k ⟨u (S.know i true).T (look (S.know i true).T a), S.H, S.n⟩) (k ⟨u (S.know i false).T (look (S.know i false).T b), S.H, S.n⟩)
    | none => match callX fc.x S.T o with
     | some v => k ⟨u S.T v, S.H, S.n⟩
     | none => match letOf S.T o with
      | some (op, args) => match symOkL args with
        | true => match letSh P op with
          | none => match findF fc.b op args with
            | some v => k ⟨u S.T v, S.H, S.n⟩
            | none => .lt op args S.n none (k ⟨u S.T (.sym S.n), S.H, Nat.succ S.n⟩)
          | some m => .lt op args S.n (some m) (k ⟨u S.T (.agg (symsFrom S.n m)), S.H, Nat.add S.n m⟩)
        | false => .bad
      | none => .bad
def xOp (P : Program) (fuel : Nat) (fc : FcT) (all : List Oper) (o : Oper) (u : Tm → AV → Tm) (next : XS → Tree) (S : XS) : Tree := match guardE' all o S.T with
  | some t => match t with
    | false => next ⟨u S.T (.tup []), S.H, S.n⟩
    | true => xStep P fuel fc o u S next
  | none => .bad
where guardE' (all : List Oper) (o : Oper) (T : Tm) : Option Bool := match guardC all o with
  | .always => some true
  | .mk g => g T
def xOps (P : Program) (N fuel : Nat) (fc : FcT) (all : List Oper) : List Oper → XS → (XS → Tree) → Tree
  | [], S, K => K S
  | o :: r, S, K => match putC N o.dst with
    | .bad => .bad
    | .mk u => match guardSym all o S.T with
      | some i => .ite i (xOp P fuel fc all o u (fun S => xOps P N fuel fc all r S K) (S.know i true)) (xOp P fuel fc all o u (fun S => xOps P N fuel fc all r S K) (S.know i false))
      | none => xOp P fuel fc all o u (fun S => xOps P N fuel fc all r S K) S

def xLoop (b : XS → (XS → Tree) → Tree) : Nat → XS → Tree
  | 0, _ => .bad
  | n + 1, S => b S fun S' => xLoop b n S'
def xEnd (id : Nat) (K : XS → Tree) (X : XX → Tree) (r : XX) : Tree := match r with
  | .exit id' S => match Nat.beq id' id with
    | true => K S
    | false => X r
  | .ret _ => X r
def xCode (P : Program) (N fuel : Nat) (fc : FcT) : Code → XS → (XS → Tree) → (XX → Tree) → Tree
  | .skip, S, K, X => K S
  | .label _, S, K, X => K S
  | .region _ ops draw, S, K, X => match draw with
    | false => xOps P N fuel fc ops.toList ops.toList S K
    | true => match drawE P (callN P fuel) N ops.toList S.T S.H [] with
      | some r => match r with
        | .norm T H D => match D with
          | [] => K ⟨T, H, S.n⟩
          | _ => .bad
        | _ => .bad
      | none => .bad
  | .seq a b, S, K, X => xCode P N fuel fc a S (fun S => xCode P N fuel fc b S K X) X
  | .cond c a b, S, K, X => match look S.T c with
    | .bool t => match t with
      | true => xCode P N fuel fc a S K X
      | false => xCode P N fuel fc b S K X
    | _ => match symTmp S.T c with
      | some i => .ite i (xCode P N fuel fc a (S.know i true) K X) (xCode P N fuel fc b (S.know i false) K X)
      | none => .bad
  | .block id b, S, K, X => xCode P N fuel fc b S K (xEnd id K X)
  | .loop b, S, K, X => xLoop (fun S K => xCode P N fuel fc b S K X) fuel S
  | .exit id, S, K, X => X (.exit id S)
  | .ret, S, K, X => X (.ret S)
  | _, _, _, _ => .bad

def xDone (P : Program) (rs : List ResultVar) (S : XS) : Tree := match resOf P S.T S.H rs with
  | some l => match snap 100 S.H (resV l) with
    | some v => match symOk v with
      | true => .done v
      | false => .bad
    | none => .bad
  | none => .bad
def xRet (P : Program) (rs : List ResultVar) (r : XX) : Tree := match r with
  | .ret S => xDone P rs S
  | .exit _ _ => .bad
def xFn (P : Program) (fuel : Nat) (fc : FcT) (f : FuncId) (args : List AV) (n : Nat) : Tree := match P.funcs[f]? with
  | some fn => match fn.body with
    | some c => match Nat.ble (lenA args) fn.ntmps && Nat.ble fn.ntmps 512 with
      | true => xCode P fn.ntmps fuel fc c ⟨enterT args 0 tnil, H0, n⟩ (xDone P fn.results.toList) (xRet P fn.results.toList)
      | false => .bad
    | none => .bad
  | none => .bad
end Go.Sx
