/-
  A region whose order is open, of operations that leave values alone: what they leave, they leave in any order.
-/
import Derived.Test.YtbceomdmpbmnkaaSyM
set_option linter.unusedVariables false
set_option linter.unusedSimpArgs false
namespace Go.Sx
variable [Gl]

/-- below m the symbols stand for these -/
def Agr (s : Nat → Option AV) (m : Nat) (E : Env) : Prop := ∀ k, k < m → E.sy k = s k
/-- an operation that leaves a value, wherever it is run -/
def SemOp (P : Program) (s : Nat → Option AV) (m N : Nat) (H : AHeap) (R : Tm) (o : Oper) (q : AV) : Prop :=
  ∀ (B : World) (pr : Nat → Prop) (E : Env) (a : Act) (w : World), Agr s m E → TRel E N R a.tmps → Rel B pr E H w → ∀ (C : Act → World → Prop) (Q : Exit → Act → World → Prop),
    (∀ E' v w', E.le E' → Rel B pr E' H w' → Con E' q v → C (a.put o.dst v) w') → o.wp P a w C Q

structure SemF (P : Program) (s : Nat → Option AV) (m N : Nat) (ops : List Oper) (l : List SI) (ev : Nat → Evt) (T0 : Tm) (H : AHeap) (i : Nat) (x : SI) : Prop where
  ex : ∃ u R R', putC N x.o.dst = .mk u ∧ (∀ t, t < 512 → tget R t = .opq ∨ (t ∈ x.rd ∧ Sl l ev T0 (fun j => decide (j < i)) t (tget R t))) ∧
    (∀ t, t < 512 → ∀ (E : Env) (v : Value), Agr s m E → Con E (tget R t) v → Con E (tget R' t) v) ∧
    ((ev i = .off ∧ guardE ops x R' = some false) ∨ ∃ q, ev i = .val q ∧ guardE ops x R' = some true ∧ SemOp P s m N H R' x.o q)

theorem SemF.mono {P : Program} {s s' : Nat → Option AV} {m m' N : Nat} {ops : List Oper} {l : List SI} {ev ev' : Nat → Evt} {T0 : Tm} {H : AHeap} {i : Nat} {x : SI} (h : SemF P s m N ops l ev T0 H i x) (hs : ∀ k, k < m → s' k = s k) (hm : m ≤ m')
    (he : ∀ j, j ≤ i → ev' j = ev j) : SemF P s' m' N ops l ev' T0 H i x := by
  have hag : ∀ E : Env, Agr s' m' E → Agr s m E := fun E h k hk => (h k (by omega)).trans (hs k hk)
  obtain ⟨u, R, R', h1, h2, h3, h4⟩ := h.ex
  refine ⟨u, R, R', h1, fun t ht => (h2 t ht).imp id fun h => ⟨h.1, h.2.ev_congr fun j hj => he j (by have : j < i := by simpa using hj
                                                                                                      omega)⟩, fun t ht E v hE => h3 t ht E v (hag E hE), ?_⟩
  rw [he i (Nat.le_refl _)]
  rcases h4 with h4 | ⟨q, g1, g2, g3⟩
  · exact .inl h4
  · exact .inr ⟨q, g1, g2, fun B pr E a w hE => g3 B pr E a w (hag E hE)⟩

structure InvS (P : Program) (B : World) (pr : Nat → Prop) (N : Nat) (E0 : Env) (D : Dfs) (l : List SI) (ev : Nat → Evt) (T0 : Tm) (H : AHeap) (S : Nat → Bool) (a : Act) (w : World) (E : Env) : Prop where
  le : E0.le E
  gl : GlOk E0
  size : a.tmps.size = N
  dfs : DRel P E0 D a.defers
  slot : ∀ t, t < 512 → ∃ q, Sl l ev T0 S t q ∧ Con E q (a.tmps.getD t undef)
  r : Rel B pr E H w

section
variable {P : Program} {s : Nat → Option AV} {m N : Nat} {B : World} {pr : Nat → Prop} {E0 : Env} {D : Dfs} {ops : Array Oper} {l : List SI} {ev : Nat → Evt} {T0 : Tm} {S : Nat → Bool} {a : Act} {w : World} {E : Env} {H : AHeap} {i : Nat} {x : SI}

theorem InvS.trel (inv : InvS P B pr N E0 D l ev T0 H S a w E) (hP : PlanOk ops.toList l) (hN : N ≤ 512) (hcl : Cl l ev S) (hx : l[i]? = some x) (hS : S i = false) (hb : ∀ j, bit x.bef j = true → S j = true)
    {R : Tm} (hR : ∀ t, t < 512 → tget R t = .opq ∨ (t ∈ x.rd ∧ Sl l ev T0 (fun j => decide (j < i)) t (tget R t))) : TRel E N R a.tmps := by
  refine ⟨inv.size, hN, fun t ht => ?_, inv.gl.sub inv.le.1⟩
  rcases hR t ht with h | ⟨h1, h2⟩
  · rw [h]; simp [Con]
  · obtain ⟨q, h3, h4⟩ := inv.slot t ht
    have : Sl l ev T0 S t (tget R t) := h2.congr fun j y hj hd => by
      rcases Nat.lt_trichotomy j i with hlt | rfl | hgt
      · have := hb j (hP.pair j i y x hlt hj hx (.inl (clash_left hd h1)))
        simp [hlt, this]
      · rw [hS]; simp
      · have hbit := hP.pair i j x y hgt hx hj (.inl (clash_right hd h1))
        cases hs : S j with
        | false => simp; omega
        | true => have := hcl.bef j y i hj hs hbit; rw [hS] at this; cases this
    rw [this.unique h3]; exact h4

theorem InvS.put (inv : InvS P B pr N E0 D l ev T0 H S a w E) (hP : PlanOk ops.toList l) (hcl : Cl l ev S) (hx : l[i]? = some x) (hS : S i = false) {u : Tm → AV → Tm} (hu : putC N x.o.dst = .mk u)
    {q : AV} (hq : (ev i).put = some q) {E' : Env} (hs : E.le E') {v : Value} (hc : Con E' q v) {w' : World} (hr : Rel B pr E' H w') : InvS P B pr N E0 D l ev T0 H (plus S i) (a.put x.o.dst v) w' E' where
  le := Env.le_trans inv.le hs
  gl := inv.gl
  size := by rw [size_put]; exact inv.size
  dfs := by rw [Act.put_defers']; exact inv.dfs
  r := hr
  slot := by
    intro t ht
    by_cases hd : x.o.dst = some t
    · refine ⟨q, Sl.put hx hd hq fun j y hj hsj hdj => ?_, ?_⟩
      · rcases Nat.lt_or_ge i j with hgt | hle
        · have hbit := hP.pair i j x y hgt hx hj (.inl (clash_dst hd hdj))
          have := hcl.bef j y i hj hsj hbit
          rw [hS] at this; cases this
        · exact hle
      · rw [hd] at hu ⊢
        rw [getD_put_same (by rw [inv.size]; exact (putC_lt hu).1)]
        exact hc
    · obtain ⟨q', h1, h2⟩ := inv.slot t ht
      refine ⟨q', h1.keep fun y hy hdy => ?_, ?_⟩
      · rw [hx] at hy; cases hy; exact absurd hdy hd
      · rw [getD_put_ne hd]; exact h2.sub hs.1

theorem sem_step {Q : Exit → Act → World → Prop} (inv : InvS P B pr N E0 D l ev T0 H S a w E) (hsy : Agr s m E0) (hP : PlanOk ops.toList l) (hN : N ≤ 512) (hcl : Cl l ev S) (hx : l[i]? = some x) (hS : S i = false)
    (hb : ∀ j, bit x.bef j = true → S j = true) (F : SemF P s m N ops.toList l ev T0 H i x) :
    wpOp P ops Q i (fun a w => (∃ E, InvS P B pr N E0 D l ev T0 H (plus S i) a w E) ∧ Cl l ev (plus S i)) a w := by
  obtain ⟨u, R, R', hu, hR, hRR, hev⟩ := F.ex
  have ht := inv.trel hP hN hcl hx hS hb hR
  have hE : Agr s m E := fun k hk => by rw [inv.le.1.2.2.2.1]; exact hsy k hk
  have ht' : TRel E N R' a.tmps := ⟨ht.size, ht.le, fun t h => hRR t h E _ hE (ht.con t h), ht.gl⟩
  rcases hev with ⟨he, hg⟩ | ⟨q, he, hg, hop⟩
  · refine wpOp_not (op_at hP hx) (guardE_ok ht' hg) ⟨⟨E, inv.put hP hcl hx hS hu (q := .tup []) (by rw [he]; rfl) (Env.le_refl E) (con_undef E) inv.r⟩, hcl.plus hx hb ?_⟩
    rw [he]; exact ⟨(fun h => by cases h), (fun h => by cases h)⟩
  · refine wpOp_do (op_at hP hx) (guardE_ok ht' hg) (hop B pr E a w hE ht' inv.r _ _ fun E' v w' h1 h2 h3 => ⟨⟨E', inv.put hP hcl hx hS hu (q := q) (by rw [he]; rfl) h1 h3 h2⟩, hcl.plus hx hb ?_⟩)
    rw [he]; exact ⟨(fun h => by cases h), (fun h => by cases h)⟩

theorem sem_any {Q : Exit → Act → World → Prop} (hsy : Agr s m E0) (hP : PlanOk ops.toList l) (hN : N ≤ 512) (F : ∀ (i : Nat) (x : SI), l[i]? = some x → SemF P s m N ops.toList l ev T0 H i x)
    (hend : ∀ (S : Nat → Bool) (a : Act) (w : World) (E : Env), InvS P B pr N E0 D l ev T0 H S a w E → Cl l ev S → (∀ j, j < l.length → S j = true) → Q .normal a w) :
    ∀ (fuel : Nat) (listed : Array Bool) (a : Act) (w : World), listed.size = ops.size → listed.toList.countP (· == false) ≤ fuel → Cl l ev (fun j => listed.getD j false) →
      (∃ E, InvS P B pr N E0 D l ev T0 H (fun j => listed.getD j false) a w E) → wpAny P .any ops Q fuel listed a w := by
  have hlen : l.length = ops.size := by rw [hP.len]; simp
  have hall : ∀ (listed : Array Bool), listed.size = ops.size → Region.ready .any ops listed = [] → ∀ j, j < l.length → listed.getD j false = true := by
    intro listed hs hrd j
    induction j using Nat.strongRecOn with
    | _ j ih =>
      intro hj
      cases hg : listed.getD j false with
      | true => rfl
      | false =>
        have hx : l[j]? = some l[j] := by simp [hj]
        have : j ∈ Region.ready .any ops listed := by
          rw [mem_ready]
          refine ⟨?_, l[j].o, op_at hP hx, fun e he hb => ?_⟩
          · have hj' : j < listed.size := by omega
            simpa [hj'] using hg
          · have := hP.lt j l[j] e hx he hb
            exact ih e.on this (by omega)
        rw [hrd] at this; cases this
  intro fuel
  induction fuel with
  | zero =>
    intro listed a w hs hc hcl ⟨E, inv⟩
    have hrd : Region.ready .any ops listed = [] := by
      rw [List.eq_nil_iff_forall_not_mem]
      intro j hj
      obtain ⟨h1, o, h2, _⟩ := mem_ready.1 hj
      have hlt : j < listed.size := by rw [hs]; exact (Array.getElem?_eq_some_iff.1 h2).1
      have hg : listed[j] = false := by simpa [hlt] using h1
      have := count_set hlt hg
      omega
    exact ⟨hrd, hend _ a w E inv hcl (hall listed hs hrd)⟩
  | succ fuel ih =>
    intro listed a w hs hc hcl ⟨E, inv⟩
    refine ⟨fun hrd => hend _ a w E inv hcl (hall listed hs hrd), fun i hi => ?_⟩
    obtain ⟨h1, o, h2, h3⟩ := mem_ready.1 hi
    have hlt : i < listed.size := by rw [hs]; exact (Array.getElem?_eq_some_iff.1 h2).1
    have hg : listed[i] = false := by simpa [hlt] using h1
    have hx : l[i]? = some l[i] := by simp [show i < l.length by omega]
    have ho : l[i].o = o := by have := op_at hP hx; rw [h2] at this; cases this; rfl
    refine wpOp_mono (fun a w h => ?_) (sem_step inv hsy hP hN hcl hx (by simpa [hlt] using hg) (fun j hj => ?_) (F i _ hx))
    · rw [← getD_plus hlt] at h
      refine ih _ a w (by simpa using hs) ?_ h.2 h.1
      have := count_set hlt hg
      omega
    · obtain ⟨e, he, hb, hj⟩ := (hP.bef i _ j hx).1 hj
      have hon := h3 e (by rw [← ho]; exact he) hb
      rcases hj with rfl | ⟨y, hy, hj⟩
      · exact hon
      · exact hcl.bef e.on y j hy hon hj

theorem sem_region (hm : P.follows .mixedOrders = true) {id n : Nat} (hpl : plan ops.toList = .mk l n) (hsy : Agr s m E) (F : ∀ (i : Nat) (x : SI), l[i]? = some x → SemF P s m N ops.toList l ev T0 H i x)
    {Tf : Tm} (hT : ∀ t, t < 512 → ∃ q, Sl l ev T0 (fun j => decide (j < l.length)) t q ∧ ∀ (E : Env) (v : Value), Agr s m E → Con E q v → Con E (tget Tf t) v) (st : St P B pr N E T0 H D a w) :
    (Code.region id ops true).wp P (fun e a w => e = .normal ∧ ∃ E', E.le E' ∧ St P B pr N E' Tf H D a w) a w := by
  obtain ⟨hP, _⟩ := plan_ok hpl
  have hempty : ∀ j, (Array.replicate ops.size false).getD j false = false := fun j => by
    rw [Array.getD_eq_getD_getElem?, Array.getElem?_replicate]
    split <;> rfl
  refine wp_region_any hm (sem_any (B := B) (pr := pr) (E0 := E) (D := D) (H := H) hsy hP st.t.le F (fun S a w E' inv hcl hall => ?_) ops.size _ a _ (by simp) ?_ ?_ ⟨E, ?_⟩)
  · refine ⟨rfl, E', inv.le, ⟨inv.size, st.t.le, fun t ht => ?_, inv.gl.sub inv.le.1⟩, inv.r, inv.dfs.mono inv.le⟩
    obtain ⟨q, h1, h2⟩ := hT t ht
    obtain ⟨q', h3, h4⟩ := inv.slot t ht
    have h1' := h1.congr (S' := S) fun j y hj _ => by
      have := (List.getElem?_eq_some_iff.1 hj).1
      rw [hall j this]; simp [this]
    have := h1'.unique h3
    subst this
    exact h2 E' _ (fun k hk => by rw [inv.le.1.2.2.2.1]; exact hsy k hk) h4
  · exact Nat.le_trans (List.countP_le_length) (by simp)
  · exact ⟨fun i hi => Bool.noConfusion ((hempty i).symm.trans hi), fun i hi => Bool.noConfusion ((hempty i).symm.trans hi), fun i x j _ hi => Bool.noConfusion ((hempty i).symm.trans hi)⟩
  · exact { le := Env.le_refl E, gl := st.t.gl, size := st.t.size, dfs := st.d, r := st.r.drawn _, slot := fun t ht => ⟨tget T0 t, .inl ⟨rfl, fun j x _ hs => Bool.noConfusion ((hempty j).symm.trans hs)⟩, st.t.con t ht⟩ }
end
end Go.Sx
