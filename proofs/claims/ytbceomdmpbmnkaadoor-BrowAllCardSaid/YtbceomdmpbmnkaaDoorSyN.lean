/-
  A region whose order is open, of operations that leave values alone: what they leave, they leave in any order.
-/
import Derived.Test.YtbceomdmpbmnkaaDoorSyM
set_option linter.unusedVariables false
set_option linter.unusedSimpArgs false
namespace Go.Sx
variable [Gl]

/-! ### which operations write -/
def isW (x : SI) : Bool := match x.o.op with
  | .call _ => false
  | _ => match x.kd with
    | .mem => true
    | .wr => true
    | _ => false
def isPu (x : SI) : Bool := match x.kd with
  | .pure => true
  | _ => false

/-- below m the symbols stand for these -/
def Agr (s : Nat → Option AV) (m : Nat) (E : Env) : Prop := ∀ k, k < m → E.sy k = s k
/-- an operation that leaves a value, wherever it is run -/
def SemOp (P : Program) (s : Nat → Option AV) (m N : Nat) (H : AHeap) (R : Tm) (o : Oper) (q : AV) : Prop :=
  ∀ (B : World) (pr : Nat → Prop) (E : Env) (a : Act) (w : World), Agr s m E → TRel E N R a.tmps → Rel B pr E H w → ∀ (C : Act → World → Prop) (Q : Exit → Act → World → Prop),
    (∀ E' v w', E.le E' → Rel B pr E' H w' → Con E' q v → C (a.put o.dst v) w') → o.wp P a w C Q

/-- a writer: it takes a heap to another one -/
def SemW (P : Program) (s : Nat → Option AV) (m N : Nat) (H H' : AHeap) (R : Tm) (o : Oper) (q : AV) : Prop :=
  ∀ (B : World) (pr : Nat → Prop) (E : Env) (a : Act) (w : World), Agr s m E → TRel E N R a.tmps → Rel B pr E H w → ∀ (C : Act → World → Prop) (Q : Exit → Act → World → Prop),
    (∀ E' v w', E.le E' → Rel B pr E' H' w' → Con E' q v → C (a.put o.dst v) w') → o.wp P a w C Q
omit [Gl] in
theorem Rel.sub_rows {B : World} {pr : Nat → Prop} {E : Env} {H H' : AHeap} {w : World} (h : Rel B pr E H w) (hr : ∀ id k, H'.get id = some k → H.get id = some k) (hn : H'.next = H.next) (hh : H'.hi = H.hi) : Rel B pr E H' w where
  own := by
    obtain ⟨own, h1, h2⟩ := h.own
    exact ⟨own, fun id k hk => h1 id k (hr id k hk), h2⟩
  imm := h.imm
  ib := h.ib
  fresh := fun id h1 h2 => h.fresh id (by omega) (by omega)
  resv := fun id hi => by rw [hn, hh]; exact h.resv id hi
  vds := h.vds
  szs := h.szs
  prot := h.prot
  size := h.size
  os := h.os
  output := h.output
/-- what it leaves at a part of the heap, it leaves at the whole -/
theorem SemOp.frame {P : Program} {s : Nat → Option AV} {m N : Nat} {K H : AHeap} {R : Tm} {o : Oper} {q : AV} (h : SemOp P s m N K R o q) (hK : ∀ id k, K.get id = some k → H.get id = some k) (hroom : K.hi ≤ K.next) : SemOp P s m N H R o q :=
  fun B pr E a w hE ht hr C Q hC => by
    obtain ⟨pr', h1, h2⟩ := hr.frame hK (fun id => E.res id ∨ (H.next ≤ id ∧ id < H.hi)) (fun id hv => .inl (hr.vds id hv)) (fun id hi => hi.elim (fun hi => (hr.resv id hi).1) fun hi => hr.fresh id hi.1 hi.2) (fun id h3 h4 => absurd h4 (by omega))
    refine h w pr' (E.re (fun id => E.res id ∨ (H.next ≤ id ∧ id < H.hi)) E.imm fun id => E.vd id ∧ K.get id ≠ none) a w (fun k hk => hE k hk) ⟨ht.size, ht.le, fun t hlt => (ht.con t hlt).sub (Env.sub_re ..), ht.gl.sub (Env.sub_re ..)⟩ h1 C Q fun E' v w' hle hr' hc => ?_
    obtain ⟨g1, g2, g3, g4, g5⟩ := h2 E' K w' hle hr'
    obtain ⟨H', e1, e2, e3, e4, e5⟩ := g5 H.next H.hi E.res (fun id h3 h4 => ⟨g1 id (.inr ⟨h3, h4⟩), fun hx => (hr.resv id hx).2 ⟨h3, h4⟩⟩) (fun id hi => g1 id (.inl hi)) (fun id hv => hr.vds id hv)
    have hsub : E'.sub (E'.re E.res E.bim E.vd) := Env.sub_re ..
    refine hC (E'.re E.res E.bim E.vd) v w' ⟨⟨fun i x hx => g3.1 i x hx, fun b n hx => g3.2.1 b n hx, fun b o v hx => g3.2.2.1 b o v hx, g3.2.2.2.1, g3.2.2.2.2⟩, rfl, rfl, rfl⟩ (e3.sub_rows (fun id k hk => ?_) e1.symm e2.symm) (hc.sub hsub)
    cases hKid : K.get id with
    | none => exact e5 id k hk hKid
    | some k2 =>
      have := hK id k2 hKid
      rw [hk] at this; cases this
      exact e4 id k hKid

/-- which operation, of those ahead of b, writes -/
def Wr (l : List SI) (b j : Nat) : Prop := ∃ y, l[j]? = some y ∧ isW y = true ∧ j < b
structure SemF (P : Program) (s : Nat → Option AV) (m N : Nat) (ops : List Oper) (l : List SI) (b : Nat) (ev : Nat → Evt) (T0 : Tm) (G KK : Nat → AHeap) (i : Nat) (x : SI) : Prop where
  ex : ∃ u R R', putC N x.o.dst = .mk u ∧ (∀ t, t < 512 → tget R t = .opq ∨ (t ∈ x.rd ∧ Sl l ev T0 (fun j => decide (j < i)) t (tget R t))) ∧
    (∀ t, t < 512 → ∀ (E : Env) (v : Value), Agr s m E → Con E (tget R t) v → Con E (tget R' t) v) ∧
    ((ev i = .off ∧ guardE ops x R' = some false ∧ G (i + 1) = G i) ∨ ∃ q, ev i = .val q ∧ guardE ops x R' = some true ∧
      ((isW x = true ∧ SemW P s m N (G i) (G (i + 1)) R' x.o q ∧ (∀ j y, l[j]? = some y → j < i → isW y = false → bit x.bef j = false → ∀ id k, (KK j).get id = some k → (G i).get id = some k → (G (i + 1)).get id = some k)) ∨
       (isW x = false ∧ G (i + 1) = G i ∧ (KK i).hi ≤ (KK i).next ∧ SemOp P s m N (KK i) R' x.o q ∧ ∃ lo, (∀ id k, (KK i).get id = some k → (G lo).get id = some k) ∧ lo ≤ i ∧ (lo = 0 ∨ ∃ j, lo = j + 1 ∧ Wr l b j ∧ bit x.bef j = true) ∧
          ∀ j, Wr l b j → lo ≤ j → j < i → ∀ id k, (KK i).get id = some k → (G j).get id = some k → (G (j + 1)).get id = some k)))

theorem SemF.mono {P : Program} {s s' : Nat → Option AV} {m m' N : Nat} {ops : List Oper} {l : List SI} {b : Nat} {ev ev' : Nat → Evt} {T0 : Tm} {G G' KK KK' : Nat → AHeap} {i : Nat} {x : SI} (h : SemF P s m N ops l b ev T0 G KK i x) (hs : ∀ k, k < m → s' k = s k) (hm : m ≤ m')
    (he : ∀ j, j ≤ i → ev' j = ev j) (hG : ∀ j, j ≤ i + 1 → G' j = G j) (hK : ∀ j, j ≤ i → KK' j = KK j) : SemF P s' m' N ops l b ev' T0 G' KK' i x := by
  have hag : ∀ E : Env, Agr s' m' E → Agr s m E := fun E h k hk => (h k (by omega)).trans (hs k hk)
  obtain ⟨u, R, R', h1, h2, h3, h4⟩ := h.ex
  refine ⟨u, R, R', h1, fun t ht => (h2 t ht).imp id fun h => ⟨h.1, h.2.ev_congr fun j hj => he j (by have : j < i := by simpa using hj
                                                                                                      omega)⟩, fun t ht E v hE => h3 t ht E v (hag E hE), ?_⟩
  rw [he i (Nat.le_refl _), hG i (by omega), hG (i + 1) (Nat.le_refl _)]
  rcases h4 with h4 | ⟨q, g1, g2, g3⟩
  · exact .inl h4
  · refine .inr ⟨q, g1, g2, ?_⟩
    rcases g3 with ⟨k1, k2, k3⟩ | ⟨k1, k2, k3, k4, lo, k5, k6, k7, k8⟩
    · refine .inl ⟨k1, fun B pr E a w hE => k2 B pr E a w (hag E hE), fun j y hy hj => ?_⟩
      rw [hK j (by omega)]; exact k3 j y hy hj
    · refine .inr ⟨k1, k2, ?_⟩
      rw [hK i (Nat.le_refl _)]
      refine ⟨k3, fun B pr E a w hE => k4 B pr E a w (hag E hE), lo, ?_, k6, k7, fun j hj h1 h2 => ?_⟩
      · rw [hG lo (by omega)]; exact k5
      · rw [hG j (by omega), hG (j + 1) (by omega)]; exact k8 j hj h1 h2

structure InvS (P : Program) (B : World) (pr : Nat → Prop) (N : Nat) (E0 : Env) (D : Dfs) (l : List SI) (b : Nat) (ev : Nat → Evt) (T0 : Tm) (G : Nat → AHeap) (S : Nat → Bool) (a : Act) (w : World) (E : Env) : Prop where
  le : E0.le E
  gl : GlOk E0
  size : a.tmps.size = N
  dfs : DRel P E0 D a.defers
  slot : ∀ t, t < 512 → ∃ q, Sl l ev T0 S t q ∧ Con E q (a.tmps.getD t undef)
  r : ∃ k, k ≤ b ∧ (∀ j, Wr l b j → (S j = true ↔ j < k)) ∧ Rel B pr E (G k) w

section
variable {P : Program} {s : Nat → Option AV} {m N b : Nat} {B : World} {pr : Nat → Prop} {E0 : Env} {D : Dfs} {ops : Array Oper} {l : List SI} {ev : Nat → Evt} {T0 : Tm} {S : Nat → Bool} {a : Act} {w : World} {E : Env} {G KK : Nat → AHeap} {i : Nat} {x : SI}

theorem InvS.trel (inv : InvS P B pr N E0 D l b ev T0 G S a w E) (hP : PlanOk ops.toList l) (hN : N ≤ 512) (hcl : Cl l ev S) (hx : l[i]? = some x) (hS : S i = false) (hb : ∀ j, bit x.bef j = true → S j = true)
    {R : Tm} (hR : ∀ t, t < 512 → tget R t = .opq ∨ (t ∈ x.rd ∧ Sl l ev T0 (fun j => decide (j < i)) t (tget R t))) : TRel E N R a.tmps := by
  refine ⟨inv.size, hN, fun t ht => ?_, inv.gl.sub inv.le.1⟩
  rcases hR t ht with h | ⟨h1, h2⟩
  · rw [h]; simp [Con]
  · obtain ⟨q, h3, h4⟩ := inv.slot t ht
    have : Sl l ev T0 S t (tget R t) := h2.congr fun j y hj hd => by
      rcases Nat.lt_trichotomy j i with hlt | rfl | hgt
      · have := hb j (hP.pair j i y x hlt hj hx (.inl (clash_left hd h1)))
        simp [hlt, this]
      · rw [hS]; simp
      · have hbit := hP.pair i j x y hgt hx hj (.inl (clash_right hd h1))
        cases hs : S j with
        | false => simp; omega
        | true => have := hcl.bef j y i hj hs hbit; rw [hS] at this; cases this
    rw [this.unique h3]; exact h4

theorem InvS.put (inv : InvS P B pr N E0 D l b ev T0 G S a w E) (hP : PlanOk ops.toList l) (hcl : Cl l ev S) (hx : l[i]? = some x) (hS : S i = false) {u : Tm → AV → Tm} (hu : putC N x.o.dst = .mk u)
    {q : AV} (hq : (ev i).put = some q) {E' : Env} (hs : E.le E') {v : Value} (hc : Con E' q v) {w' : World} (hr : ∃ k, k ≤ b ∧ (∀ j, Wr l b j → (plus S i j = true ↔ j < k)) ∧ Rel B pr E' (G k) w') : InvS P B pr N E0 D l b ev T0 G (plus S i) (a.put x.o.dst v) w' E' where
  le := Env.le_trans inv.le hs
  gl := inv.gl
  size := by rw [size_put]; exact inv.size
  dfs := by rw [Act.put_defers']; exact inv.dfs
  r := hr
  slot := by
    intro t ht
    by_cases hd : x.o.dst = some t
    · refine ⟨q, Sl.put hx hd hq fun j y hj hsj hdj => ?_, ?_⟩
      · rcases Nat.lt_or_ge i j with hgt | hle
        · have hbit := hP.pair i j x y hgt hx hj (.inl (clash_dst hd hdj))
          have := hcl.bef j y i hj hsj hbit
          rw [hS] at this; cases this
        · exact hle
      · rw [hd] at hu ⊢
        rw [getD_put_same (by rw [inv.size]; exact (putC_lt hu).1)]
        exact hc
    · obtain ⟨q', h1, h2⟩ := inv.slot t ht
      refine ⟨q', h1.keep fun y hy hdy => ?_, ?_⟩
      · rw [hx] at hy; cases hy; exact absurd hdy hd
      · rw [getD_put_ne hd]; exact h2.sub hs.1

omit [Gl] in
theorem const_range {k n : Nat} (hno : ∀ j, k ≤ j → G (j + 1) = G j ∨ k + n ≤ j) : G (k + n) = G k := by
  induction n with
  | zero => rfl
  | succ n ih =>
    rw [show k + (n + 1) = k + n + 1 by omega]
    rcases hno (k + n) (by omega) with h | h
    · rw [h]; exact ih fun j hj => (hno j hj).elim .inl fun h => .inr (by omega)
    · omega
theorem SemF.keeps {ops : List Oper} (F : SemF P s m N ops l b ev T0 G KK i x) (h : isW x = false) : G (i + 1) = G i := by
  obtain ⟨u, R, R', _, _, _, h4⟩ := F.ex
  rcases h4 with ⟨_, _, h⟩ | ⟨q, _, _, ⟨h', _⟩ | ⟨_, h, _⟩⟩
  · exact h
  · rw [h] at h'; cases h'
  · exact h

theorem sem_step {Q : Exit → Act → World → Prop} (inv : InvS P B pr N E0 D l b ev T0 G S a w E) (hsy : Agr s m E0) (hP : PlanOk ops.toList l) (hN : N ≤ 512) (hcl : Cl l ev S) (hx : l[i]? = some x) (hib : i < b) (hS : S i = false)
    (hb : ∀ j, bit x.bef j = true → S j = true) (F : ∀ (i : Nat) (x : SI), l[i]? = some x → i < b → SemF P s m N ops.toList l b ev T0 G KK i x) (h2 : ∀ (i j : Nat) (x y : SI), i < j → j < b → l[i]? = some x → l[j]? = some y → isW x = true → isW y = true → bit y.bef i = true) (hbl : b ≤ l.length) :
    wpOp P ops Q i (fun a w => (∃ E, InvS P B pr N E0 D l b ev T0 G (plus S i) a w E) ∧ Cl l ev (plus S i)) a w := by
  obtain ⟨u, R, R', hu, hR, hRR, hev⟩ := (F i x hx hib).ex
  have ht := inv.trel hP hN hcl hx hS hb hR
  have hE : Agr s m E := fun k hk => by rw [inv.le.1.2.2.2.1]; exact hsy k hk
  have ht' : TRel E N R' a.tmps := ⟨ht.size, ht.le, fun t h => hRR t h E _ hE (ht.con t h), ht.gl⟩
  obtain ⟨k, hkb, hk, hr⟩ := inv.r
  have hat : ∀ j, j < b → ∃ y, l[j]? = some y := fun j hj => ⟨l[j], by simp [show j < l.length by omega]⟩
  have hnoW : ∀ j, j < b → ¬ Wr l b j → G (j + 1) = G j := fun j hj hn => by
    obtain ⟨y, hy⟩ := hat j hj
    refine (F j y hy hj).keeps ?_
    cases hw : isW y with
    | false => rfl
    | true => exact absurd ⟨y, hy, hw, hj⟩ hn
  -- no writer, k stays
  have keepk : isW x = false → ∀ j, Wr l b j → (plus S i j = true ↔ j < k) := fun hw j hj => by
    have : j ≠ i := fun e => by
      subst e
      obtain ⟨y, hy, hy2, _⟩ := hj
      rw [hx] at hy; cases hy; rw [hw] at hy2; cases hy2
    simpa [plus, this] using hk j hj
  -- a writer: the heap is the one ahead of it
  have atk : isW x = true → G k = G i ∧ ∀ j, Wr l b j → (plus S i j = true ↔ j < i + 1) := fun hw => by
    have hWi : Wr l b i := ⟨x, hx, hw, hib⟩
    have hki : k ≤ i := by
      rcases Nat.lt_or_ge i k with h | h
      · have := (hk i hWi).2 h
        rw [hS] at this; cases this
      · exact h
    have hbelow : ∀ j, Wr l b j → j < i → S j = true := fun j hj hlt => by
      obtain ⟨y, hy, hy2, _⟩ := hj
      exact hb j (h2 j i y x hlt hib hy hx hy2 hw)
    refine ⟨?_, fun j hj => ?_⟩
    · have := const_range (G := G) (k := k) (n := i - k) fun j hj => by
        by_cases hji : j < i
        · refine .inl (hnoW j (by omega) fun hwj => ?_)
          have := (hk j hwj).1 (hbelow j hwj hji)
          omega
        · exact .inr (by omega)
      rw [show k + (i - k) = i by omega] at this
      exact this.symm
    · rcases Nat.lt_trichotomy j i with hlt | rfl | hgt
      · have h1 := hbelow j hj hlt
        have : j ≠ i := by omega
        simp only [plus, this, if_false, h1, true_iff]; omega
      · simp [plus]
      · have hne : j ≠ i := by omega
        obtain ⟨y, hy, hy2, hjb⟩ := hj
        have hbit := h2 i j x y hgt hjb hx hy hw hy2
        simp only [plus, hne, if_false]
        constructor
        · intro hs
          have := hcl.bef j y i hy hs hbit
          rw [hS] at this; cases this
        · intro h; omega
  rcases hev with ⟨he, hg, hGe⟩ | ⟨q, he, hg, hop⟩
  · refine wpOp_not (op_at hP hx) (guardE_ok ht' hg) ⟨⟨E, inv.put hP hcl hx hS hu (q := .tup []) (by rw [he]; rfl) (Env.le_refl E) (con_undef E) ?_⟩, hcl.plus hx hb ?_⟩
    · cases hw : isW x with
      | false => exact ⟨k, hkb, keepk hw, hr⟩
      | true =>
        obtain ⟨e1, e2⟩ := atk hw
        exact ⟨i + 1, hib, e2, by rw [hGe, ← e1]; exact hr⟩
    · rw [he]; exact ⟨(fun h => by cases h), (fun h => by cases h)⟩
  · have hclp : Cl l ev (plus S i) := hcl.plus hx hb (by rw [he]; exact ⟨(fun h => by cases h), (fun h => by cases h)⟩)
    rcases hop with ⟨hw, hop, _⟩ | ⟨hw, _, hroom, hop, lo, hsub, hlo, hlo0, hbet⟩
    · obtain ⟨e1, e2⟩ := atk hw
      refine wpOp_do (op_at hP hx) (guardE_ok ht' hg) (hop B pr E a w hE ht' (by rw [← e1]; exact hr) _ _ fun E' v w' h1 h2 h3 => ⟨⟨E', inv.put hP hcl hx hS hu (q := q) (by rw [he]; rfl) h1 h3 ⟨i + 1, hib, e2, h2⟩⟩, hclp⟩)
    · have hK : ∀ id kk, (KK i).get id = some kk → (G k).get id = some kk := by
        intro id kk hkk
        have hlk : lo ≤ k := by
          rcases hlo0 with rfl | ⟨j, rfl, hj, hbit⟩
          · omega
          · exact (hk j hj).1 (hb j hbit)
        have key : ∀ n, lo + n ≤ k → (G (lo + n)).get id = some kk := by
          intro n
          induction n with
          | zero => intro _; exact hsub id kk hkk
          | succ n ih =>
            intro hn
            have hprev := ih (by omega)
            rw [show lo + (n + 1) = lo + n + 1 by omega]
            have hjb : lo + n < b := by omega
            obtain ⟨y, hy⟩ := hat _ hjb
            have Fy := F _ y hy hjb
            cases hwy : isW y with
            | false => rw [Fy.keeps hwy]; exact hprev
            | true =>
              have hWj : Wr l b (lo + n) := ⟨y, hy, hwy, hjb⟩
              have hSj : S (lo + n) = true := (hk _ hWj).2 (by omega)
              rcases Nat.lt_trichotomy (lo + n) i with hlt | heq | hgt
              · exact hbet _ hWj (by omega) hlt id kk hkk hprev
              · rw [heq, hx] at hy; cases hy; rw [hw] at hwy; cases hwy
              · obtain ⟨_, _, _, _, _, _, h4⟩ := Fy.ex
                rcases h4 with ⟨_, _, h⟩ | ⟨_, _, _, ⟨_, _, h'⟩ | ⟨h, _⟩⟩
                · rw [h]; exact hprev
                · refine h' i x hx hgt hw ?_ id kk hkk hprev
                  cases hbit : bit y.bef i with
                  | false => rfl
                  | true => have := hcl.bef _ y i hy hSj hbit; rw [hS] at this; cases this
                · rw [hwy] at h; cases h
        have := key (k - lo) (by omega)
        rwa [show lo + (k - lo) = k by omega] at this
      exact wpOp_do (op_at hP hx) (guardE_ok ht' hg) ((hop.frame hK hroom) B pr E a w hE ht' hr _ _ fun E' v w' h1 h2 h3 => ⟨⟨E', inv.put hP hcl hx hS hu (q := q) (by rw [he]; rfl) h1 h3 ⟨k, hkb, keepk hw, h2⟩⟩, hclp⟩)

omit [Gl] in
theorem PlanOk.below {ops : List Oper} (hP : PlanOk ops l) : ∀ (i : Nat) (x : SI) (j : Nat), l[i]? = some x → bit x.bef j = true → j < i := by
  intro i
  induction i using Nat.strongRecOn with
  | _ i ih =>
    intro x j hx hb
    obtain ⟨e, h1, h2, h3⟩ := (hP.bef i x j hx).1 hb
    have h4 := hP.lt i x e hx h1 h2
    rcases h3 with rfl | ⟨y, hy, hj⟩
    · exact h4
    · have := ih e.on h4 y j hy hj
      omega
omit [Gl] in
/-- those that come behind all of the others, in their order -/
theorem tail_any {Q : Exit → Act → World → Prop} (hP : PlanOk ops.toList l) (htail : ∀ (i : Nat) (x : SI), l[i]? = some x → b ≤ i → ∀ j, j < i → bit x.bef j = true) :
    ∀ (fuel : Nat) (listed : Array Bool) (k : Nat) (a : Act) (w : World), listed.size = ops.size → listed.toList.countP (· == false) ≤ fuel → b ≤ k → k ≤ ops.size → (∀ j, listed.getD j false = decide (j < k)) →
      wpList P ops Q (ops.toList.drop k) a w → wpAny P .any ops Q fuel listed a w := by
  have hlen : l.length = ops.size := by rw [hP.len]; simp
  -- what is ready is the next one
  have next : ∀ (listed : Array Bool) (k : Nat), listed.size = ops.size → b ≤ k → (∀ j, listed.getD j false = decide (j < k)) → ∀ i, i ∈ Region.ready .any ops listed → i = k ∧ i < ops.size := by
    intro listed k hs hbk hl i hi
    obtain ⟨h1, o, h2, h3⟩ := mem_ready.1 hi
    have hlt : i < ops.size := (Array.getElem?_eq_some_iff.1 h2).1
    have hg : listed.getD i false = false := by
      have hlt' : i < listed.size := by omega
      simpa [hlt'] using h1
    have hik : ¬ i < k := by rw [hl i] at hg; simpa using hg
    refine ⟨?_, hlt⟩
    rcases Nat.lt_or_ge k i with h | h
    · exfalso
      have hx : l[i]? = some l[i] := by simp [show i < l.length by omega]
      have hbit := htail i _ hx (by omega) k h
      obtain ⟨e, he, hb, hj⟩ := (hP.bef i _ k hx).1 hbit
      have ho : l[i].o = o := by have := op_at hP hx; rw [h2] at this; cases this; rfl
      have hon := h3 e (by rw [← ho]; exact he) hb
      rw [hl] at hon
      have hon : e.on < k := by simpa using hon
      rcases hj with rfl | ⟨y, hy, hj⟩
      · omega
      · have := hP.below e.on y k hy hj
        omega
    · omega
  intro fuel
  induction fuel with
  | zero =>
    intro listed k a w hs hc hbk hk hl h
    have hall : k = ops.size := by
      rcases Nat.lt_or_ge k ops.size with hlt | hge
      · exfalso
        have hg : listed[k] = false := by
          have := hl k
          simpa [show k < listed.size by omega] using this
        have := count_set (listed := listed) (i := k) (by omega) hg
        omega
      · omega
    have hrd : Region.ready .any ops listed = [] := by
      rw [List.eq_nil_iff_forall_not_mem]
      intro j hj
      obtain ⟨h1, h2⟩ := next listed k hs hbk hl j hj
      omega
    refine ⟨hrd, ?_⟩
    rw [hall, List.drop_eq_nil_of_le (by simp)] at h
    exact h
  | succ fuel ih =>
    intro listed k a w hs hc hbk hk hl h
    rcases Nat.lt_or_ge k ops.size with hlt | hge
    · have ho : ops[k]? = some ops[k] := by simp [hlt]
      have hdrop : ops.toList.drop k = ops[k] :: ops.toList.drop (k + 1) := by
        rw [List.drop_eq_getElem_cons (by simpa using hlt)]; simp
      rw [hdrop] at h
      have hgk : listed[k] = false := by
        have := hl k
        simpa [show k < listed.size by omega] using this
      have hstep : ∀ a w, wpList P ops Q (ops.toList.drop (k + 1)) a w → wpAny P .any ops Q fuel (listed.setIfInBounds k true) a w := fun a w h => by
        refine ih _ (k + 1) a w (by simpa using hs) ?_ (by omega) hlt (fun j => ?_) h
        · have := count_set (listed := listed) (i := k) (by omega) hgk
          omega
        · have := congrFun (getD_plus (listed := listed) (i := k) (by omega)) j
          rw [this]
          by_cases e : j = k
          · subst e; simp [plus]
          · simp only [plus, e, if_false, hl j]
            by_cases hjk : j < k
            · simp [hjk, show j < k + 1 by omega]
            · simp [hjk, show ¬ j < k + 1 by omega]
      refine ⟨fun hrd => ?_, fun i hi => ?_⟩
      · exfalso
        have : k ∈ Region.ready .any ops listed := by
          rw [mem_ready]
          refine ⟨by simp [show k < listed.size by omega, hgk], ops[k], ho, fun e he hb => ?_⟩
          have hx : l[k]? = some l[k] := by simp [show k < l.length by omega]
          have hok : l[k].o = ops[k] := by have := op_at hP hx; rw [ho] at this; exact (Option.some.inj this).symm
          have := hP.lt k _ e hx (by rw [hok]; exact he) hb
          rw [hl]; simpa using this
        rw [hrd] at this; cases this
      · obtain ⟨rfl, _⟩ := next listed k hs hbk hl i hi
        unfold wpOp
        simp only [ho]
        unfold wpList at h
        split
        · rename_i hw
          rw [if_pos hw] at h
          exact h.imp (Oper.wp_mono hstep) id
        · rename_i hw
          rw [if_neg hw] at h
          exact hstep _ _ h
    · have hall : k = ops.size := by omega
      have hrd : Region.ready .any ops listed = [] := by
        rw [List.eq_nil_iff_forall_not_mem]
        intro j hj
        obtain ⟨h1, h2⟩ := next listed k hs hbk hl j hj
        omega
      rw [hall, List.drop_eq_nil_of_le (by simp)] at h
      exact ⟨fun _ => h, fun i hi => by rw [hrd] at hi; cases hi⟩

theorem sem_any {Q : Exit → Act → World → Prop} (hsy : Agr s m E0) (hP : PlanOk ops.toList l) (hN : N ≤ 512) (F : ∀ (i : Nat) (x : SI), l[i]? = some x → i < b → SemF P s m N ops.toList l b ev T0 G KK i x)
    (h2 : ∀ (i j : Nat) (x y : SI), i < j → j < b → l[i]? = some x → l[j]? = some y → isW x = true → isW y = true → bit y.bef i = true) (hbl : b ≤ l.length) (htail : ∀ (i : Nat) (x : SI), l[i]? = some x → b ≤ i → ∀ j, j < i → bit x.bef j = true)
    (hend : ∀ (S : Nat → Bool) (a : Act) (w : World) (E : Env), InvS P B pr N E0 D l b ev T0 G S a w E → Cl l ev S → (∀ j, S j = decide (j < b)) → wpList P ops Q (ops.toList.drop b) a w) :
    ∀ (fuel : Nat) (listed : Array Bool) (a : Act) (w : World), listed.size = ops.size → listed.toList.countP (· == false) ≤ fuel → Cl l ev (fun j => listed.getD j false) → (∀ j, listed.getD j false = true → j < b) →
      (∃ E, InvS P B pr N E0 D l b ev T0 G (fun j => listed.getD j false) a w E) → wpAny P .any ops Q fuel listed a w := by
  have hlen : l.length = ops.size := by rw [hP.len]; simp
  intro fuel
  induction fuel with
  | zero =>
    intro listed a w hs hc hcl hlb ⟨E, inv⟩
    have hall : ∀ j, j < ops.size → listed.getD j false = true := fun j hj => by
      cases hg : listed.getD j false with
      | true => rfl
      | false =>
        exfalso
        have hg' : listed[j]'(by omega) = false := by simpa [show j < listed.size by omega] using hg
        have := count_set (listed := listed) (i := j) (by omega) hg'
        omega
    have hb : b = ops.size := by
      rcases Nat.lt_or_ge b ops.size with h | h
      · have := hlb _ (hall b h); omega
      · omega
    have hS : ∀ j, listed.getD j false = decide (j < b) := fun j => by
      by_cases hj : j < b
      · rw [hall j (by omega)]; simp [hj]
      · cases hg : listed.getD j false with
        | false => simp [hj]
        | true => exact absurd (hlb j hg) hj
    refine tail_any hP htail 0 listed b a w hs hc (Nat.le_refl b) (by omega) hS (hend _ a w E inv hcl hS)
  | succ fuel ih =>
    intro listed a w hs hc hcl hlb ⟨E, inv⟩
    by_cases hall : ∀ j, j < b → listed.getD j false = true
    · have hS : ∀ j, listed.getD j false = decide (j < b) := fun j => by
        by_cases hj : j < b
        · rw [hall j hj]; simp [hj]
        · cases hg : listed.getD j false with
          | false => simp [hj]
          | true => exact absurd (hlb j hg) hj
      exact tail_any hP htail (fuel + 1) listed b a w hs hc (Nat.le_refl b) (by omega) hS (hend _ a w E inv hcl hS)
    · -- one of those is open
      have hrdy : ∃ j, j < b ∧ j ∈ Region.ready .any ops listed := by
        have : ∀ n, (∀ j, j < n → j < b → listed.getD j false = true) ∨ ∃ j, j < b ∧ j ∈ Region.ready .any ops listed := by
          intro n
          induction n with
          | zero => exact .inl fun j hj => absurd hj (Nat.not_lt_zero _)
          | succ n ihn =>
            rcases ihn with h | h
            · cases hg : listed.getD n false with
              | true =>
                exact .inl fun j hj hjb => if e : j = n then by rw [e]; exact hg else h j (by omega) hjb
              | false =>
                rcases Nat.lt_or_ge n b with hnb | hnb
                · refine .inr ⟨n, hnb, ?_⟩
                  rw [mem_ready]
                  have hx : l[n]? = some l[n] := by simp [show n < l.length by omega]
                  refine ⟨?_, l[n].o, op_at hP hx, fun e he hb => ?_⟩
                  · have hj' : n < listed.size := by omega
                    simpa [hj'] using hg
                  · have := hP.lt n l[n] e hx he hb
                    exact h e.on this (by omega)
                · exact .inl fun j hj hjb => h j (by omega) hjb
            · exact .inr h
        rcases this b with h | h
        · exact absurd (fun j hj => h j hj hj) hall
        · exact h
      refine ⟨fun hrd => ?_, fun i hi => ?_⟩
      · obtain ⟨j, _, hj⟩ := hrdy
        rw [hrd] at hj; cases hj
      · obtain ⟨h1, o, ho1, h3⟩ := mem_ready.1 hi
        have hlt : i < listed.size := by rw [hs]; exact (Array.getElem?_eq_some_iff.1 ho1).1
        have hg : listed[i] = false := by simpa [hlt] using h1
        have hx : l[i]? = some l[i] := by simp [show i < l.length by omega]
        have ho : l[i].o = o := by have := op_at hP hx; rw [ho1] at this; cases this; rfl
        have hbef : ∀ j, bit l[i].bef j = true → listed.getD j false = true := fun j hj => by
          obtain ⟨e, he, hb, hj⟩ := (hP.bef i _ j hx).1 hj
          have hon := h3 e (by rw [← ho]; exact he) hb
          rcases hj with rfl | ⟨y, hy, hj⟩
          · exact hon
          · exact hcl.bef e.on y j hy hon hj
        have hib : i < b := by
          rcases Nat.lt_or_ge i b with h | h
          · exact h
          · exfalso
            exact hall fun j hj => hbef j (htail i _ hx h j (by omega))
        refine wpOp_mono (fun a w h => ?_) (sem_step inv hsy hP hN hcl hx hib (by simpa [hlt] using hg) hbef F h2 hbl)
        rw [← getD_plus hlt] at h
        refine ih _ a w (by simpa using hs) ?_ h.2 (fun j hj => ?_) h.1
        · have := count_set hlt hg
          omega
        · have e := congrFun (getD_plus (listed := listed) (i := i) hlt) j
          rw [e] at hj
          by_cases hji : j = i
          · omega
          · exact hlb j (by simpa [plus, hji] using hj)

theorem sem_region (hm : P.follows .mixedOrders = true) {id n : Nat} (hpl : plan ops.toList = .mk l n) (hsy : Agr s m E) (F : ∀ (i : Nat) (x : SI), l[i]? = some x → i < b → SemF P s m N ops.toList l b ev T0 G KK i x)
    (h2 : ∀ (i j : Nat) (x y : SI), i < j → j < b → l[i]? = some x → l[j]? = some y → isW x = true → isW y = true → bit y.bef i = true) (hbl : b ≤ l.length) (htail : ∀ (i : Nat) (x : SI), l[i]? = some x → b ≤ i → ∀ j, j < i → bit x.bef j = true)
    {Tf : Tm} (hT : ∀ t, t < 512 → ∃ q, Sl l ev T0 (fun j => decide (j < b)) t q ∧ ∀ (E : Env) (v : Value), Agr s m E → Con E q v → Con E (tget Tf t) v) {Q : Exit → Act → World → Prop}
    (hQ : ∀ E' a w, E.le E' → St P B pr N E' Tf (G b) D a w → wpList P ops Q (ops.toList.drop b) a w) (st : St P B pr N E T0 (G 0) D a w) :
    (Code.region id ops true).wp P Q a w := by
  obtain ⟨hP, _⟩ := plan_ok hpl
  have hempty : ∀ j, (Array.replicate ops.size false).getD j false = false := fun j => by
    rw [Array.getD_eq_getD_getElem?, Array.getElem?_replicate]
    split <;> rfl
  refine wp_region_any hm (sem_any (B := B) (pr := pr) (E0 := E) (D := D) (G := G) (b := b) hsy hP st.t.le F h2 hbl htail (fun S a w E' inv hcl hall => ?_) ops.size _ a _ (by simp) ?_ ?_ (fun j hj => Bool.noConfusion ((hempty j).symm.trans hj)) ⟨E, ?_⟩)
  · obtain ⟨k, hkb, hk, hr⟩ := inv.r
    have hGk : G b = G k := by
      have := const_range (G := G) (k := k) (n := b - k) fun j hj => by
        by_cases hjb : j < b
        · refine .inl ?_
          have hx : l[j]? = some l[j] := by simp [show j < l.length by omega]
          refine (F j _ hx hjb).keeps ?_
          cases hw : isW l[j] with
          | false => rfl
          | true =>
            have := (hk j ⟨_, hx, hw, hjb⟩).1 (by rw [hall j]; simpa using hjb)
            omega
        · exact .inr (by omega)
      rwa [show k + (b - k) = b by omega] at this
    refine hQ E' a w inv.le ⟨⟨inv.size, st.t.le, fun t ht => ?_, inv.gl.sub inv.le.1⟩, by rw [hGk]; exact hr, inv.dfs.mono inv.le⟩
    obtain ⟨q, h1, h2⟩ := hT t ht
    obtain ⟨q', h3, h4⟩ := inv.slot t ht
    have h1' := h1.congr (S' := S) fun j y hj _ => by rw [hall j]
    have := h1'.unique h3
    subst this
    exact h2 E' _ (fun k hk => by rw [inv.le.1.2.2.2.1]; exact hsy k hk) h4
  · exact Nat.le_trans (List.countP_le_length) (by simp)
  · exact ⟨fun i hi => Bool.noConfusion ((hempty i).symm.trans hi), fun i hi => Bool.noConfusion ((hempty i).symm.trans hi), fun i x j _ hi => Bool.noConfusion ((hempty i).symm.trans hi)⟩
  · exact { le := Env.le_refl E, gl := st.t.gl, size := st.t.size, dfs := st.d, r := ⟨0, Nat.zero_le _, fun j _ => ⟨fun h => Bool.noConfusion ((hempty j).symm.trans h), fun h => absurd h (Nat.not_lt_zero _)⟩, st.r.drawn _⟩, slot := fun t ht => ⟨tget T0 t, .inl ⟨rfl, fun j x _ hs => Bool.noConfusion ((hempty j).symm.trans hs)⟩, st.t.con t ht⟩ }
end
end Go.Sx
