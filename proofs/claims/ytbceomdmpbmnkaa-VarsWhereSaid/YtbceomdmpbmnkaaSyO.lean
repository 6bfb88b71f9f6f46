/-
  Regions whose order is open, with symbols.
-/
import Derived.Test.YtbceomdmpbmnkaaSyJ
set_option linter.unusedVariables false
set_option linter.unusedSimpArgs false
namespace Go.Sx

theorem keepT_eq (T : Tm) {t : Nat} (ht : t < 512) : ∀ (rd : List Nat) (R : Tm), tget (keepT T rd R) t = if t ∈ rd then tget T t else tget R t
  | [], R => by simp [keepT]
  | d :: r, R => by
    unfold keepT
    split
    · rename_i hb
      have hd : d < 512 := by simpa [Nat.blt_eq] using hb
      rw [keepT_eq T ht r]
      by_cases e : d = t
      · subst e
        rw [tget_tset_same R hd]
        by_cases hm : d ∈ r <;> simp [hm]
      · rw [tget_tset_ne R ht hd e]
        have e' : t ≠ d := fun h => e h.symm
        simp [e']
    · rename_i hb
      have hd : ¬ d < 512 := fun h => by
        have : Nat.blt d 512 = true := by simpa [Nat.blt_eq] using h
        rw [hb] at this; cases this
      rw [keepT_eq T ht r]
      have e' : t ≠ d := fun h => by omega
      simp [e']

mutual
theorem den_lt {n : Nat} {s s' : Nat → Option AV} (hs : ∀ k, k < n → s k = s' k) : ∀ {a : AV}, symLt n a = true → den s a = den s' a
  | .opq, _ => rfl
  | .bool _, _ => rfl
  | .int _ _, _ => rfl
  | .flt _ _, _ => rfl
  | .nan _, _ => rfl
  | .str _, _ => rfl
  | .nptr, _ => rfl
  | .ptr _ _, _ => rfl
  | .vptr cs, h => by simp only [symLt] at h; simp only [den, denL_lt hs h]
  | .nsl, _ => rfl
  | .sl .., _ => rfl
  | .vsl _ _ cs, h => by simp only [symLt] at h; simp only [den, denL_lt hs h]
  | .nmap, _ => rfl
  | .map _, _ => rfl
  | .nfn, _ => rfl
  | .fn _ cs, h => by simp only [symLt] at h; simp only [den, denL_lt hs h]
  | .nif, _ => rfl
  | .iface _ a, h => by simp only [symLt] at h; simp only [den, den_lt hs h]
  | .agg cs, h => by simp only [symLt] at h; simp only [den, denL_lt hs h]
  | .tup cs, h => by simp only [symLt] at h; simp only [den, denL_lt hs h]
  | .sym i, h => by
    have hi : i < n := by simpa [symLt, Nat.blt_eq] using h
    simp only [den, hs i hi]
  | .slx .., _ => rfl
  | .ptx .., _ => rfl
theorem denL_lt {n : Nat} {s s' : Nat → Option AV} (hs : ∀ k, k < n → s k = s' k) : ∀ {l : List AV}, symLtL n l = true → denL s l = denL s' l
  | [], _ => rfl
  | a :: r, h => by
    simp only [symLtL] at h
    obtain ⟨h1, h2⟩ := and_split h
    simp only [denL, den_lt hs h1, denL_lt hs h2]
end

variable [Gl]
section
variable {P : Program} {N : Nat} {Q : AV → Prop} {c : VC}

theorem semOp_val {s : Nat → Option AV} {m : Nat} {H : AHeap} {R : Tm} {o : Oper} {q : AV} (h : readV (stage P o) R H = some q) : SemOp P s m N H R o q := fun B pr E a w hE ht hr C X hC => by
  obtain ⟨E', n, v, w', h1, h2, h3, h4, h5⟩ := stage_run (readV_run h) hr ht
  have := hC E' v w' h3 h4 h5
  unfold Oper.wp
  rw [h1]
  rcases h2 with rfl | ⟨rfl, rfl⟩
  · exact this
  · exact this
theorem semOp_call {Y : Sy} {n : Nat} (hf : Fresh Y n) {H : AHeap} {R : Tm} {o : Oper} {g : FuncId} {args : List AV} {sh : List (Option Nat)} {v : AV} {vs : List AV} (hst : (stage P o).run R H = some (.call g args)) (hso : symOkL args = true) (hlt : symLtL n args = true)
    (hp : Pure P g (denL Y.v args) v) (hfl : flatV sh v = some vs) (hok : okL vs = true) : SemOp P (Y.puts n vs).v (n + shLen sh) N H R o (shapeV n sh) := fun B pr E a w hE ht hr C X hC => by
  obtain ⟨us, g1, g2⟩ := stage_run hst hr ht
  have hlen := flatV_len hfl
  have hden : denL E.sy args = denL Y.v args := denL_lt (fun k hk => (hE k (by omega)).trans (Ext.puts vs n (Nat.le_refl n) k hk)) hlt
  have hcon : ConL E (denL Y.v args) us := by rw [← hden]; exact (den_con0L hso g2).con
  unfold Oper.wp
  rw [g1]
  refine Calls.mono (hp H B pr E w us ht.gl hr hcon) fun e w' he => ?_
  obtain ⟨E', hle, u', rfl, h1, h2⟩ := he
  exact hC E' u' w' hle h2 (flatV_con (E := E') (E' := E') (fun _ _ _ h => h) hfl hok h1 fun i a ha => by
    rw [hle.1.2.2.2.1, hE (n + i) (by rw [← hlen]; have := (List.getElem?_eq_some_iff.1 ha).1; omega)]
    exact puts_at vs hf i a ha)
theorem semOp_let1 {Y : Sy} {n : Nat} {H : AHeap} {R : Tm} {o : Oper} {op : XOp} {args : List AV} {r : AV} (hl : letOf R o = some (op, args)) (hso : symOkL args = true) (hlt : symLtL n args = true) (hr : op.run P (denL Y.v args) = some r) (hok : okC r = true) :
    SemOp P (Y.put n r).v (n + 1) N H R o (.sym n) := fun B pr E a w hE ht hrel C X hC => by
  have hden : denL E.sy args = denL Y.v args := denL_lt (fun k hk => (hE k (by omega)).trans (Sy.put_ne _ _ (by omega))) hlt
  obtain ⟨E', nx, v, w', h1, h2, h3, h4, h5⟩ := let_op hl hso (r := r) (by rw [hden]; exact hr) hrel ht
  have := hC E' v w' h3 h4 (by
    simp only [Con]
    refine ⟨r, ?_, okC_one hok, okC_con0 hok h5⟩
    rw [h3.1.2.2.2.1, hE n (by omega)]
    exact Sy.put_same _ _ _)
  unfold Oper.wp
  rw [h1]
  rcases h2 with rfl | ⟨rfl, rfl⟩
  · exact this
  · exact this
theorem semOp_letN {Y : Sy} {n : Nat} (hf : Fresh Y n) {H : AHeap} {R : Tm} {o : Oper} {op : XOp} {args cs : List AV} (hl : letOf R o = some (op, args)) (hso : symOkL args = true) (hlt : symLtL n args = true) (hr : op.run P (denL Y.v args) = some (.agg cs)) (hok : okL cs = true) :
    SemOp P (Y.puts n cs).v (n + cs.length) N H R o (.agg (symsFrom n cs.length)) := fun B pr E a w hE ht hrel C X hC => by
  have hden : denL E.sy args = denL Y.v args := denL_lt (fun k hk => (hE k (by omega)).trans (Ext.puts cs n (Nat.le_refl n) k hk)) hlt
  obtain ⟨E', nx, v, w', h1, h2, h3, h4, h5⟩ := let_op hl hso (r := .agg cs) (by rw [hden]; exact hr) hrel ht
  have := hC E' v w' h3 h4 (by
    simp only [Con] at h5 ⊢
    obtain ⟨vs, rfl, hL⟩ := h5
    refine ⟨vs, rfl, symsFrom_con n cs vs hok (fun i a ha => ?_) (okL_con0 hok hL)⟩
    rw [h3.1.2.2.2.1, hE (n + i) (by have := (List.getElem?_eq_some_iff.1 ha).1; omega)]
    exact puts_at cs hf i a ha)
  unfold Oper.wp
  rw [h1]
  rcases h2 with rfl | ⟨rfl, rfl⟩
  · exact this
  · exact this

/-- what stands in the slots says no less -/
def Sim (Y : Sy) (n : Nat) (Tr T : Tm) : Prop := ∀ t, t < 512 → ∀ (E : Env) (v : Value), Agr Y.v n E → Con E (tget Tr t) v → Con E (tget T t) v
omit [Gl] in
theorem Sim.know {Y : Sy} {n : Nat} {Tr T : Tm} (h : Sim Y n Tr T) (hf : Fresh Y n) {i : Nat} {b : Bool} (hb : Y.v i = some (.bool b)) : Sim Y n Tr (mapT (subB i b) T) := fun t ht E v hE hc => by
  rw [tget_mapT]
  have hi : i < n := by
    rcases Nat.lt_or_ge i n with h | h
    · exact h
    · rw [hf.2 i h] at hb; cases hb
  exact con_subB ((hE i hi).trans hb) (h t ht E v hE hc)
omit [Gl] in
theorem Sim.put {Y Y' : Sy} {n n' : Nat} {Tr T : Tm} (h : Sim Y n Tr T) (hx : Ext n Y Y') (hn : n ≤ n') {d : Option Nat} {u : Tm → AV → Tm} (hu : putC N d = .mk u) (q : AV) : Sim Y' n' (u Tr q) (u T q) := fun t ht E v hE hc => by
  obtain ⟨p1, p2⟩ := putC_get hu Tr q ht
  obtain ⟨q1, q2⟩ := putC_get hu T q ht
  by_cases e : d = some t
  · rw [p1 e] at hc; rw [q1 e]; exact hc
  · rw [p2 e] at hc; rw [q2 e]
    exact h t ht E v (fun k hk => (hE k (by omega)).trans (hx k hk)) hc

/-- one operation of such a region -/
structure Did1 (P : Program) (N : Nat) (Q : AV → Prop) (c : VC) (L : LVs) (ops : List Oper) (x : SI) (u : Tm → AV → Tm) (Tr : Tm) (S : VS) (Y : Sy) (next : VS → VT) (Y' : Sy) (S1 S' : VS) (q : AV) (e : Evt) : Prop where
  good : Good P c S'.n Y'
  n : S.n ≤ S'.n
  ext : Ext S.n Y Y'
  lv : S'.lv = S.lv
  h : S'.H = S.H
  l : Y'.l = Y.l
  sim : Sim Y S.n Tr S1.T
  t : S'.T = u S1.T q
  ok : VOK P Q L Y' (next S')
  ev : (e = .off ∧ q = .tup [] ∧ guardE ops x (keepT S1.T x.rd topq) = some false) ∨ (e = .val q ∧ guardE ops x (keepT S1.T x.rd topq) = some true ∧ SemOp P Y'.v S'.n N S.H (keepT S1.T x.rd topq) x.o q)

theorem vDOp_ok {L : LVs} {ops : List Oper} {x : SI} {u : Tm → AV → Tm} {Tr : Tm} {S S1 : VS} {Y : Sy} {next : VS → VT} (hf : Good P c S.n Y) (hsim : Sim Y S.n Tr S1.T) (h1 : S1.n = S.n ∧ S1.lv = S.lv ∧ S1.H = S.H) (h : VOK P Q L Y (vDOp P c ops x u next S1)) :
    ∃ Y' S2 S' q e, Did1 P N Q c L ops x u Tr S Y next Y' S2 S' q e := by
  obtain ⟨e1, e2, e3⟩ := h1
  unfold vDOp at h
  split at h
  case h_2 => exact h.elim
  rename_i t hg
  split at h
  · exact ⟨Y, S1, ⟨u S1.T (.tup []), S1.H, S1.n, S1.lv⟩, .tup [], .off, by rw [← e1] at hf; exact hf, by rw [e1]; exact Nat.le_refl _, Ext.refl _ _, e2, e3, rfl, hsim, rfl, h, .inl ⟨rfl, rfl, hg⟩⟩
  · unfold vDStep at h
    split at h
    · rename_i q hq
      exact ⟨Y, S1, ⟨u S1.T q, S1.H, S1.n, S1.lv⟩, q, .val q, by rw [← e1] at hf; exact hf, by rw [e1]; exact Nat.le_refl _, Ext.refl _ _, e2, e3, rfl, hsim, rfl, h, .inr ⟨rfl, hg, semOp_val (by rw [← e3]; exact hq)⟩⟩
    · split at h
      · rename_i r hst
        split at h
        · rename_i g args
          split at h
          · rename_i sh hsh
            split at h
            · rename_i hb
              obtain ⟨hso, hlt⟩ := and_split hb
              obtain ⟨v, vs, hp, hfl, hok, ht⟩ := h
              have hlen := flatV_len hfl
              rw [e1] at hlt ht
              refine ⟨Y.puts S.n vs, S1, ⟨u S1.T (shapeV S.n sh), S1.H, Nat.add S.n (shLen sh), S1.lv⟩, shapeV S.n sh, .val (shapeV S.n sh), ?_, Nat.le_add_right _ _, Ext.puts vs _ (Nat.le_refl _), e2, e3, (hf.1.puts vs).2.2.1, hsim, rfl, ht, .inr ⟨rfl, hg, ?_⟩⟩
              · show Good P c (S.n + shLen sh) _
                rw [← hlen]; exact hf.puts vs
              · exact semOp_call hf.1 (by rw [← e3]; exact hst) hso hlt hp hfl hok
            · exact h.elim
          · exact h.elim
        · exact h.elim
      · split at h
        · rename_i i a b hp
          obtain ⟨t, ht, k1, k2⟩ := h
          have val : ∀ t, Y.v i = some (.bool t) → VOK P Q L Y (vDVal P x u (S1.know i t) next) → ∃ Y' S2 S' q e, Did1 P N Q c L ops x u Tr S Y next Y' S2 S' q e := fun t ht h => by
            unfold vDVal at h
            split at h
            · rename_i q hq
              have hg' : guardE ops x (keepT (S1.know i t).T x.rd topq) = some true := by
                unfold guardE at hg ⊢
                split at hg
                · rename_i hgc; exact hg
                · rename_i g hgc
                  have hi : guardC ops x.o = .mk g := hgc
                  -- the guard's slot is a truth value
                  have hgk := guard_know hi (S := ⟨keepT S1.T x.rd topq, S1.H, 0⟩) hg i t
                  have hTe : ∀ tt, tt < 512 → tget (keepT (S1.know i t).T x.rd topq) tt = tget (mapT (subB i t) (keepT S1.T x.rd topq)) tt := fun tt htt => by
                    rw [tget_mapT, keepT_eq _ htt, keepT_eq _ htt]
                    show (if tt ∈ x.rd then tget (mapT (subB i t) S1.T) tt else tget topq tt) = _
                    rw [tget_mapT]
                    split
                    · rfl
                    · rw [tget_topq]; rfl
                  unfold guardC at hi
                  split at hi
                  · cases hi
                  · split at hi
                    · split at hi
                      · rename_i d hd
                        split at hi
                        · rename_i hd512
                          cases hi
                          have hd512 : d < 512 := by simpa [Nat.blt_eq] using hd512
                          have hgk' : boolIs (tget (mapT (subB i t) (keepT S1.T x.rd topq)) d) _ = some true := hgk
                          show boolIs (tget (keepT (S1.know i t).T x.rd topq) d) _ = some true
                          rw [hTe d hd512]; exact hgk'
                        · cases hi; exact hg
                      · cases hi; exact hg
                    · cases hi; exact hg
              exact ⟨Y, S1.know i t, ⟨u (S1.know i t).T q, S1.H, S1.n, S1.lv⟩, q, .val q, by rw [← e1] at hf; exact hf, by rw [e1]; exact Nat.le_refl _, Ext.refl _ _, e2, e3, rfl, hsim.know hf.1 ht, rfl, h, .inr ⟨rfl, hg', semOp_val (by rw [← e3]; exact hq)⟩⟩
            · exact h.elim
          cases t with
          | true => exact val true ht (k1 rfl)
          | false => exact val false ht (k2 rfl)
        · split at h
          · rename_i op args hl
            split at h
            · rename_i hb
              obtain ⟨hso, hlt⟩ := and_split hb
              rw [e1] at hlt
              split at h
              · obtain ⟨r, hr, hok, ht⟩ := h
                rw [e1] at ht
                exact ⟨Y.put S.n r, S1, ⟨u S1.T (.sym S.n), S1.H, Nat.succ S.n, S1.lv⟩, .sym S.n, .val (.sym S.n), hf.put r, Nat.le_succ _, Ext.put r (Nat.le_refl _), e2, e3, rfl, hsim, rfl, ht, .inr ⟨rfl, hg, semOp_let1 hl hso hlt hr hok⟩⟩
              · rename_i m hm
                obtain ⟨cs, hr, hlen, hok, ht⟩ := h
                rw [e1] at ht
                subst hlen
                exact ⟨Y.puts S.n cs, S1, ⟨u S1.T (.agg (symsFrom S.n cs.length)), S1.H, Nat.add S.n cs.length, S1.lv⟩, .agg (symsFrom S.n cs.length), .val (.agg (symsFrom S.n cs.length)), hf.puts cs, Nat.le_add_right _ _, Ext.puts cs _ (Nat.le_refl _), e2, e3, (hf.1.puts cs).2.2.1, hsim, rfl, ht, .inr ⟨rfl, hg, semOp_letN hf.1 hl hso hlt hr hok⟩⟩
            · exact h.elim
          · exact h.elim

theorem vDOps_ok {L : LVs} {ops : List Oper} {l : List SI} (hP : PlanOk ops l) {T0 : Tm} {H0 : AHeap} {K : VS → VT} : ∀ (rest : List SI) (i : Nat) (S : VS) (Tr : Tm) (Y : Sy) (ev : Nat → Evt), (∀ k, rest[k]? = l[i + k]?) → i + rest.length = l.length → Good P c S.n Y → S.H = H0 →
    (∀ t, t < 512 → Sl l ev T0 (fun j => decide (j < i)) t (tget Tr t)) → Sim Y S.n Tr S.T → (∀ j x, l[j]? = some x → j < i → SemF P Y.v S.n N ops l ev T0 H0 j x) → VOK P Q L Y (vDOps P N c ops rest S K) →
    ∃ Y' S' Tr' ev', Good P c S'.n Y' ∧ S.n ≤ S'.n ∧ Ext S.n Y Y' ∧ S'.lv = S.lv ∧ S'.H = H0 ∧ Y'.l = Y.l ∧ (∀ t, t < 512 → Sl l ev' T0 (fun j => decide (j < l.length)) t (tget Tr' t)) ∧ Sim Y' S'.n Tr' S'.T ∧ (∀ j x, l[j]? = some x → SemF P Y'.v S'.n N ops l ev' T0 H0 j x) ∧ VOK P Q L Y' (K S')
  | [], i, S, Tr, Y, ev, hr, hi, hf, hH, hsl, hsim, hF, h => by
    have hi : i = l.length := by simpa using hi
    subst hi
    exact ⟨Y, S, Tr, ev, hf, Nat.le_refl _, Ext.refl _ _, rfl, hH, rfl, hsl, hsim, fun j x hj => hF j x hj (List.getElem?_eq_some_iff.1 hj).1, h⟩
  | x :: r, i, S, Tr, Y, ev, hr, hi, hf, hH, hsl, hsim, hF, h => by
    have hx : l[i]? = some x := by have := hr 0; simpa using this.symm
    unfold vDOps at h
    split at h
    · exact h.elim
    rename_i u hu
    have fin : ∀ S1 : VS, S1.n = S.n ∧ S1.lv = S.lv ∧ S1.H = S.H → Sim Y S.n Tr S1.T → VOK P Q L Y (vDOp P c ops x u (fun S => vDOps P N c ops r S K) S1) →
        ∃ Y' S' Tr' ev', Good P c S'.n Y' ∧ S.n ≤ S'.n ∧ Ext S.n Y Y' ∧ S'.lv = S.lv ∧ S'.H = H0 ∧ Y'.l = Y.l ∧ (∀ t, t < 512 → Sl l ev' T0 (fun j => decide (j < l.length)) t (tget Tr' t)) ∧ Sim Y' S'.n Tr' S'.T ∧ (∀ j x, l[j]? = some x → SemF P Y'.v S'.n N ops l ev' T0 H0 j x) ∧ VOK P Q L Y' (K S') := by
      intro S1 h1 hs1 hk
      obtain ⟨Y1, S2, S3, q, e, d⟩ := vDOp_ok (N := N) hf hs1 h1 hk
      have hput : e.put = some q := by
        rcases d.ev with ⟨rfl, rfl, _⟩ | ⟨rfl, _⟩ <;> rfl
      let ev1 : Nat → Evt := fun j => if j = i then e else ev j
      have hev1 : ev1 i = e := if_pos rfl
      have hold : ∀ j, j < i → ev1 j = ev j := fun j hj => if_neg (by omega)
      have hsl1 : ∀ t a, Sl l ev T0 (fun j => decide (j < i)) t a → Sl l ev1 T0 (fun j => decide (j < i)) t a := fun t a h => h.ev_congr fun j hj => hold j (by simpa using hj)
      obtain ⟨Y', S', Tr', ev', g1, g2, g3, g4, g5, g6, g7, g8, g9, g10⟩ := vDOps_ok hP r (i + 1) S3 (u Tr q) Y1 ev1 (fun k => by have := hr (k + 1); rw [show i + 1 + k = i + (k + 1) by omega]; simpa using this) (by simp only [List.length_cons] at hi; omega) d.good (d.h.trans hH)
        (fun t ht => by
          show Sl l ev1 T0 _ t _
          rw [lt_plus]
          obtain ⟨p1, p2⟩ := putC_get hu Tr q ht
          by_cases ed : x.o.dst = some t
          · rw [p1 ed]
            refine Sl.put hx ed (by rw [hev1]; exact hput) fun j y hj hs hd => ?_
            have : j < i := by simpa using hs
            omega
          · rw [p2 ed]
            refine (hsl1 t _ (hsl t ht)).keep fun y hy hd => ?_
            rw [hx] at hy; cases hy; exact absurd hd ed)
        (by rw [d.t]; exact d.sim.put d.ext d.n hu q)
        (fun j y hj hlt => by
          by_cases ej : j = i
          · subst ej
            rw [hx] at hj; cases hj
            refine ⟨u, keepT Tr x.rd topq, keepT S2.T x.rd topq, hu, fun t ht => ?_, fun t ht E v hE hc => ?_, ?_⟩
            · rw [keepT_eq Tr ht]
              split
              · rename_i hm; exact .inr ⟨hm, hsl1 t _ (hsl t ht)⟩
              · exact .inl (tget_topq t)
            · rw [keepT_eq _ ht] at hc ⊢
              split
              · rename_i hm
                rw [if_pos hm] at hc
                exact d.sim t ht E v (fun k hk => (hE k (Nat.lt_of_lt_of_le hk d.n)).trans (d.ext k hk)) hc
              · rw [tget_topq]; simp [Con]
            · rw [hev1]
              rcases d.ev with ⟨rfl, _, hg⟩ | ⟨rfl, hg, hop⟩
              · exact .inl ⟨rfl, hg⟩
              · exact .inr ⟨q, rfl, hg, by rw [← hH]; exact hop⟩
          · exact (hF j y hj (by omega)).mono d.ext d.n fun k hk => hold k (by omega))
        d.ok
      exact ⟨Y', S', Tr', ev', g1, Nat.le_trans d.n g2, d.ext.trans g3 d.n, g4.trans d.lv, g5, g6.trans d.l, g7, g8, g9, g10⟩
    split at h
    · rename_i k hg
      obtain ⟨t, ht, h1, h2⟩ := h
      cases t with
      | true => exact fin (S.know k true) ⟨rfl, rfl, rfl⟩ (hsim.know hf.1 ht) (h1 rfl)
      | false => exact fin (S.know k false) ⟨rfl, rfl, rfl⟩ (hsim.know hf.1 ht) (h2 rfl)
    · exact fin S ⟨rfl, rfl, rfl⟩ hsim h

theorem vDraw_ok (hm : P.follows .mixedOrders = true) {L : LVs} {ops : Array Oper} {id : Nat} {S : VS} {Y : Sy} {K : VS → VT} (hL : L.length = S.lv) (hf : Good P c S.n Y) (h : VOK P Q L Y (vDraw P N c ops.toList S K)) :
    ∀ (B : World) (pr : Nat → Prop) (E : Env) (a : Act) (w : World), E.At Y → St P B pr N E S.T S.H [] a w → (Code.region id ops true).wp P (OutF P B pr N 0 E (deliverP (kV P Q c L S.n Y K) fun _ _ => False)) a w := by
  intro B pr E a w hy st
  unfold vDraw at h
  split at h
  case h_2 => exact h.elim
  rename_i l n hpl
  obtain ⟨hP, _⟩ := plan_ok hpl
  obtain ⟨Y', S', Tr', ev', g1, g2, g3, g4, g5, g6, g7, g8, g9, g10⟩ := vDOps_ok (N := N) hP (T0 := S.T) (H0 := S.H) l 0 S S.T Y (fun _ => .gone) (fun k => by rw [Nat.zero_add]) (by simp) hf rfl (fun t ht => .inl ⟨rfl, fun j x _ hs => by simp at hs⟩) (fun t _ E v _ h => h) (fun j x _ hj => absurd hj (Nat.not_lt_zero _)) h
  have hv : ∀ i x, E.sy i = some x → Y'.v i = some x := fun i x hx => by
    rw [hy.v] at hx
    have hi : i < S.n := by
      rcases Nat.lt_or_ge i S.n with h | h
      · exact h
      · rw [hf.1.2 i h] at hx; cases hx
    rw [g3 i hi]; exact hx
  have hll : ∀ i x, E.syl i = some x → Y'.l i = some x := fun i x hx => by rw [g6, ← hy.l]; exact hx
  have hlo : ∀ i, i < 64 → Y'.v i = E.sy i := fun i hi => by rw [hy.v]; exact g3 i (by have := hf.1.1; omega)
  have st1 := st.with hv hll hlo
  refine Code.wp_mono (fun e a w hq => ?_) (sem_region (s := Y'.v) (m := S'.n) (id := id) hm hpl (fun k _ => rfl) g9 (Tf := S'.T) (fun t ht => ⟨_, g7 t ht, fun E v hE hc => g8 t ht E v hE hc⟩) st1)
  obtain ⟨rfl, E', hle, st'⟩ := hq
  have hy1 : (E.with Y').At Y' := ⟨rfl, rfl, hy.res⟩
  refine ⟨Y', .norm S'.T S'.H [], ⟨rfl, S'.n, S'.lv, L, List.prefix_refl L, by rw [g4]; exact hL, g2, g3, g1, g10⟩, E', (Env.with_leF 0 hlo).trans (hle.leF 0), hy1.le hle, rfl, by rw [g5]; exact st'⟩
end
end Go.Sx
