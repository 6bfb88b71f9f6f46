/-
  The evaluator with loops by templates is right: code, and calls.
-/
import Derived.Test.YtmhcemkembijeaaSyO
set_option linter.unusedVariables false
set_option linter.unusedSimpArgs false
namespace Go.Sx
variable [Gl]
section
variable {P : Program} {N : Nat} {Q : AV → Prop} {fuel : Nat} {c : VC}
def BodyOk (P : Program) (N : Nat) (Q : AV → Prop) (c : VC) (b : Code) (bS : VS → (VS → VT) → VT) (X : VX → VT) : Prop :=
  ∀ (S : VS) (K : VS → VT) (Y : Sy) (L : LVs), L.length = S.lv → Good P c S.n Y → VOK P Q L Y (bS S K) → wCode P N 0 b Y S.T S.H S.D (kV P Q c L S.n Y K) (xV P Q c L S.n Y X)

theorem vLoop_ok {b : Code} {bS : VS → (VS → VT) → VT} {X : VX → VT} {K : KP} (hb : BodyOk P N Q c b bS X) (m : Nat) (S : VS) (Y : Sy) (L : LVs) (hL : L.length = S.lv) (hf : Good P c S.n Y)
    (h : VOK P Q L Y (vLoop bS m S)) : wCode P N 0 (.loop b) Y S.T S.H S.D K (xV P Q c L S.n Y X) := by
  unfold wCode
  refine ⟨{ p : Nat × Sy × VS × LVs // L <+: p.2.2.2 ∧ p.2.2.2.length = p.2.2.1.lv ∧ S.n ≤ p.2.2.1.n ∧ Ext S.n Y p.2.1 ∧ Good P c p.2.2.1.n p.2.1 ∧ VOK P Q p.2.2.2 p.2.1 (vLoop bS p.1 p.2.2.1) }, fun p => ⟨p.1.2.1, p.1.2.2.1.T, p.1.2.2.1.H, p.1.2.2.1.D⟩,
    fun p => p.1.1, ⟨(m, Y, S, L), List.prefix_refl L, hL, Nat.le_refl _, Ext.refl _ _, hf, h⟩, Weak.refl _ _ _ _ _ _ _, fun p => ?_⟩
  obtain ⟨⟨m, Y', S', L'⟩, q1, q2, q3, q4, q5, q6⟩ := p
  cases m with
  | zero => exact q6.elim
  | succ m =>
    refine wCode_mono b (fun Y2 T2 H2 D2 hk => ?_) (fun Y2 r hx => xV_mono q1 q3 q4 hx) _ _ _ _ (hb S' _ Y' L' q2 q5 q6)
    obtain ⟨n', lv, L2, g1, g2, g3, g4, g5, g6⟩ := hk
    exact ⟨⟨(m, Y2, ⟨T2, H2, n', lv, D2⟩, L2), q1.trans g1, g2, Nat.le_trans q3 g3, q4.trans g4 q3, g5, g6⟩, Nat.lt_succ_self m, Weak.refl _ _ _ _ _ _ _⟩

omit [Gl] in
theorem matchAny_some {n : Nat} : ∀ {l : List Tpl} {j0 : Nat} {S : VS} {j : Nat} {hv : List AV}, matchAny n l j0 S = some (j, hv) → ∃ i tp, l[i]? = some tp ∧ j = j0 + i ∧ matchT n tp (frzT tp S) = some hv
  | [], j0, S, j, hv, h => by cases h
  | tp :: r, j0, S, j, hv, h => by
    unfold matchAny at h
    split at h
    · rename_i hv' hm
      cases h
      exact ⟨0, tp, rfl, rfl, hm⟩
    · obtain ⟨i, tp', h1, h2, h3⟩ := matchAny_some h
      exact ⟨i + 1, tp', by simpa using h1, by omega, h3⟩
theorem frzT_weak (tp : Tpl) (S : VS) (Y : Sy) : Weak P N 0 Y S.T S.H S.D Y (frzT tp S).T (frzT tp S).H (frzT tp S).D ∧ (frzT tp S).n = S.n := by
  unfold frzT
  split
  · exact ⟨Weak.refl _ _ _ _ _ _ _, rfl⟩
  · exact ⟨freezeL_weak _, rfl⟩
theorem frzD_weak (l : List Oper) (S : VS) (Y : Sy) : Weak P N 0 Y S.T S.H S.D Y (frzD l S).T (frzD l S).H (frzD l S).D ∧ (frzD l S).n = S.n ∧ (frzD l S).lv = S.lv := by
  unfold frzD
  split
  · exact ⟨Weak.refl _ _ _ _ _ _ _, rfl, rfl⟩
  · exact ⟨freezeL_weak _, rfl, rfl⟩
theorem VOKs_at {Inv : Nat → List AV → Prop} {μ : Nat → List AV → Nat} {L : LVs} {n lvl : Nat} {Y : Sy} {bS : VS → (VS → VT) → VT} {tps : List Tpl} : ∀ (l : List Tpl) (j0 : Nat), VOKs P Q Inv μ L n j0 Y (vBodies bS n lvl tps l) →
    ∀ i tp, l[i]? = some tp → ∀ vs, vs.length = tp.nv → Inv (j0 + i) vs → VOK P Q (L ++ [fun j' vs' => Inv j' vs' ∧ μ j' vs' < μ (j0 + i) vs]) (Y.puts n vs) (bS (tp.inst n (Nat.succ lvl)) (vAgain n lvl tps))
  | [], j0, h, i, tp, hi => by simp at hi
  | t :: r, j0, h, i, tp, hi => by
    obtain ⟨h1, h2⟩ := h
    cases i with
    | zero => simp at hi; subst hi; exact h1
    | succ i =>
      have := VOKs_at r (j0 + 1) h2 i tp (by simpa using hi)
      rw [show j0 + (i + 1) = j0 + 1 + i by omega]
      exact this

theorem vTpl_ok {b : Code} {bS : VS → (VS → VT) → VT} {X : VX → VT} {K : KP} {tps : List Tpl} (hb : BodyOk P N Q c b bS X) (S : VS) (Y : Sy) (L : LVs) (hL : L.length = S.lv) (hf : Good P c S.n Y)
    (h : VOK P Q L Y (vTpl bS tps S)) : wCode P N 0 (.loop b) Y S.T S.H S.D K (xV P Q c L S.n Y X) := by
  unfold vTpl at h
  split at h
  case h_2 => exact h.elim
  rename_i j hv hm
  obtain ⟨Inv, μ, hok, hinv, hbs⟩ := h
  obtain ⟨i, tp, hi, hj, hmt⟩ := matchAny_some hm
  have hj : j = i := by omega
  subst hj
  have hw := match_weak (N := N) (P := P) (lv := Nat.succ S.lv) hmt hf.1 (Ext.refl _ _) (hok _ _ hinv)
  have hw := And.intro hw.1 ((frzT_weak (P := P) (N := N) tp S Y).1.trans hw.2)
  unfold wCode
  refine ⟨{ p : Nat × List AV × Tpl // tps[p.1]? = some p.2.2 ∧ p.2.1.length = p.2.2.nv ∧ Inv p.1 p.2.1 }, fun p => ⟨Y.puts S.n p.1.2.1, (p.1.2.2.inst S.n (Nat.succ S.lv)).T, (p.1.2.2.inst S.n (Nat.succ S.lv)).H, []⟩, fun p => μ p.1.1 p.1.2.1,
    ⟨(j, denL Y.v hv, tp), hi, hw.1, hinv⟩, hw.2, fun p => ?_⟩
  obtain ⟨⟨j1, vs, tp1⟩, q1, q2, q3⟩ := p
  have hb1 := VOKs_at tps 0 hbs j1 tp1 q1 vs q2 (by rw [Nat.zero_add]; exact q3)
  have hgood : Good P c (tp1.inst S.n (Nat.succ S.lv)).n (Y.puts S.n vs) := by
    show Good P c (S.n + tp1.nv) _
    rw [← q2]; exact hf.puts vs
  have hext : Ext S.n Y (Y.puts S.n vs) := Ext.puts vs _ (Nat.le_refl _)
  have hpre : ∀ R : Nat → List AV → Prop, L <+: L ++ [R] := fun R => List.prefix_append _ _
  have hnle : S.n ≤ (tp1.inst S.n (Nat.succ S.lv)).n := Nat.le_add_right _ _
  refine wCode_mono b (fun Y2 T2 H2 D2 hk => ?_) (fun Y2 r hx => xV_mono (hpre _) hnle hext hx) _ _ _ _ (hb _ _ _ _ (by rw [List.length_append, hL]; rfl) hgood hb1)
  obtain ⟨n', lv, L2, g1, g2, g3, g4, g5, g6⟩ := hk
  unfold vAgain at g6
  split at g6
  · rename_i j2 hv2 hm2
    obtain ⟨R, r1, r2⟩ := g6
    obtain ⟨i2, tp2, k1, k2, k3⟩ := matchAny_some hm2
    have k2 : j2 = i2 := by omega
    subst k2
    have hR : R = fun j' vs' => Inv j' vs' ∧ μ j' vs' < μ (0 + j1) vs := by
      obtain ⟨t, rfl⟩ := g1
      rw [List.getElem?_append_left (by rw [List.length_append, hL]; exact Nat.lt_succ_self _), List.getElem?_append_right (by rw [hL]; exact Nat.le_refl _), hL, Nat.sub_self] at r1
      simpa using r1.symm
    rw [hR] at r2
    have hx2 : Ext S.n Y Y2 := hext.trans g4 hnle
    have hw2 := match_weak (N := N) (P := P) (lv := Nat.succ S.lv) k3 hf.1 hx2 (hok _ _ r2.1)
    have hw2 := And.intro hw2.1 ((frzT_weak (P := P) (N := N) tp2 ⟨T2, H2, n', lv, D2⟩ Y2).1.trans hw2.2)
    exact ⟨⟨(j2, denL Y2.v hv2, tp2), k1, hw2.1, r2.1⟩, by have := r2.2; rwa [Nat.zero_add] at this, hw2.2⟩
  · exact g6.elim

theorem vCode_ok (hm : P.follows .mixedOrders = true) (hc : CallOk P (callN P fuel)) : ∀ (cd : Code) (bid : Nat) (S : VS) (K : VS → VT) (X : VX → VT) (Y : Sy) (L : LVs), L.length = S.lv → Good P c S.n Y → VOK P Q L Y (vCode P N fuel c bid cd S K X) →
    wCode P N 0 cd Y S.T S.H S.D (kV P Q c L S.n Y K) (xV P Q c L S.n Y X)
  | .skip, bid, S, K, X, Y, L, hL, hf, h => by unfold vCode at h; unfold wCode; exact ⟨S.n, S.lv, L, List.prefix_refl L, hL, Nat.le_refl _, Ext.refl _ _, hf, h⟩
  | .label _, bid, S, K, X, Y, L, hL, hf, h => by unfold vCode at h; unfold wCode; exact ⟨S.n, S.lv, L, List.prefix_refl L, hL, Nat.le_refl _, Ext.refl _ _, hf, h⟩
  | .exit id, bid, S, K, X, Y, L, hL, hf, h => by unfold vCode at h; unfold wCode; exact ⟨S.n, S.lv, L, List.prefix_refl L, hL, Nat.le_refl _, Ext.refl _ _, hf, h⟩
  | .ret, bid, S, K, X, Y, L, hL, hf, h => by unfold vCode at h; unfold wCode; exact ⟨S.n, S.lv, L, List.prefix_refl L, hL, Nat.le_refl _, Ext.refl _ _, hf, h⟩
  | .region id ops false, bid, S, K, X, Y, L, hL, hf, h => by unfold vCode at h; unfold wCode; exact vOps_ok hc _ S Y hL hf h
  | .region id ops true, bid, S, K, X, Y, L, hL, hf, h => by
    unfold vCode at h
    simp only at h
    unfold wCode
    split at h
    · rename_i r hd
      split at h
      · exact .inl ⟨Y, S.T, S.H, S.D, Weak.refl _ _ _ _ _ _ _, callN P fuel, _, hc, hd, S.n, S.lv, L, List.prefix_refl L, hL, Nat.le_refl _, Ext.refl _ _, hf, h⟩
      · exact h.elim
    · obtain ⟨w1, w2, w3⟩ := frzD_weak (P := P) (N := N) ops.toList S Y
      refine .inr fun B pr E a w hy st => ?_
      obtain ⟨E1, hle, hy1, st1⟩ := w1 B pr E a w hy st
      have key := vDraw_ok (id := id) (S := frzD ops.toList S) hm hc (by rw [w3]; exact hL) (by rw [w2]; exact hf) h B pr E1 a w hy1 st1
      rw [w2] at key
      exact Code.wp_mono (fun e a w hq => OutF.le hle hq) key
  | .seq a b, bid, S, K, X, Y, L, hL, hf, h => by
    unfold vCode at h
    unfold wCode
    refine wCode_mono a (fun Y' T' H' D' hk => ?_) (fun _ _ h => h) _ _ _ _ (vCode_ok hm hc a bid S _ X Y L hL hf h)
    obtain ⟨n', lv, L', g1, g2, g3, g4, g5, g6⟩ := hk
    exact wCode_mono b (fun _ _ _ _ hk => kV_mono g1 g3 g4 hk) (fun _ _ hx => xV_mono g1 g3 g4 hx) _ _ _ _ (vCode_ok hm hc b bid ⟨T', H', n', lv, D'⟩ K X Y' L' g2 g5 g6)
  | .cond cd a b, bid, S, K, X, Y, L, hL, hf, h => by
    unfold vCode at h
    unfold wCode
    split at h
    · rename_i t ht
      refine ⟨Y, S.T, S.H, S.D, Weak.refl _ _ _ _ _ _ _, t, ht, fun e => ?_, fun e => ?_⟩
      · subst e; exact vCode_ok hm hc a bid S K X Y L hL hf h
      · subst e; exact vCode_ok hm hc b bid S K X Y L hL hf h
    · split at h
      · rename_i i hi
        obtain ⟨t, ht, h1, h2⟩ := h
        refine ⟨Y, (S.know i t).T, (S.know i t).H, (S.know i t).D, know_weak ht S.x S.D, t, symTmp_know hi S.x rfl t, fun e => ?_, fun e => ?_⟩
        · subst e; exact vCode_ok hm hc a bid (S.know i true) K X Y L hL hf (h1 rfl)
        · subst e; exact vCode_ok hm hc b bid (S.know i false) K X Y L hL hf (h2 rfl)
      · exact h.elim
  | .block id b, bid, S, K, X, Y, L, hL, hf, h => by
    unfold vCode at h
    unfold wCode
    refine wCode_mono b (fun _ _ _ _ h => h) (fun Y' r hx => ?_) _ _ _ _ (vCode_ok hm hc b id S K (vEnd id K X) Y L hL hf h)
    cases r with
    | norm T H D => exact hx.elim
    | pan v T H D => exact hx
    | ret T H D => exact hx
    | exit id' T H D =>
      obtain ⟨n, lv, L', g1, g2, g3, g4, g5, h'⟩ := hx
      unfold vEnd at h'
      simp only at h'
      cases hb : Nat.beq id' id with
      | true =>
        rw [hb] at h'
        exact ⟨fun _ => ⟨n, lv, L', g1, g2, g3, g4, g5, h'⟩, fun e => absurd (Nat.eq_of_beq_eq_true hb) e⟩
      | false =>
        rw [hb] at h'
        refine ⟨fun e => ?_, fun _ => ⟨n, lv, L', g1, g2, g3, g4, g5, h'⟩⟩
        subst e
        rw [Nat.beq_refl] at hb; cases hb
  | .loop b, bid, S, K, X, Y, L, hL, hf, h => by
    unfold vCode at h
    have hb : BodyOk P N Q c b (fun S K => vCode P N fuel c bid b S K X) X := fun S K Y L hL hf h => vCode_ok hm hc b bid S K X Y L hL hf h
    split at h
    · exact vTpl_ok hb S Y L hL hf h
    · exact vLoop_ok hb fuel S Y L hL hf h
  | .scope _, bid, S, K, X, Y, L, hL, hf, h => by unfold vCode at h; exact h.elim
  | .goto _, bid, S, K, X, Y, L, hL, hf, h => by unfold vCode at h; exact h.elim
  | .refuse _, bid, S, K, X, Y, L, hL, hf, h => by unfold vCode at h; exact h.elim
  | .rangeFunc _ _ _ _, bid, S, K, X, Y, L, hL, hf, h => by unfold vCode at h; exact h.elim

theorem vFn_ok (hm : P.follows .mixedOrders = true) (hc : CallOk P (callN P fuel)) {f : FuncId} {args : List AV} {n : Nat} {Y : Sy} (hf : Good P c n Y) (h : VOK P Q [] Y (vFn P fuel c f args n)) : SemCallF P 0 Y f args H0 (PureEnd Q) := by
  unfold vFn at h
  split at h
  · rename_i fn hfn
    split at h
    · rename_i cd hb
      split at h
      · rename_i hle
        obtain ⟨h1, h2⟩ := and_split hle
        have h1 : args.length ≤ fn.ntmps := by rw [lenA_eq] at h1; simpa [Nat.ble_eq] using h1
        have h2 : fn.ntmps ≤ 512 := by simpa [Nat.ble_eq] using h2
        have fin : ∀ u L Y' S, VOK P Q L Y' (vDone P fuel fn.results.toList u S) → wLeave P fn.results.toList (PureEnd Q) Y' S.T S.H S.D u := by
          intro u L Y' S h
          unfold vDone at h
          split at h
          · rename_i r hl
            split at h
            · rename_i a H
              unfold vDoneV at h
              simp only at h
              split at h
              · rename_i v hv
                split at h
                · rename_i hs
                  exact ⟨callN P fuel, fuel, .ret a H, hc, hl, a, H, v, 100, rfl, hv, hs, h⟩
                · exact h.elim
              · exact h.elim
            · exact h.elim
          · exact h.elim
        refine wFn_ok hm hfn hb ⟨h1, h2, wCode_mono cd (fun Y' T' H' D' hk => ?_) (fun Y' r hx => ?_) _ _ _ _ (vCode_ok hm hc cd 0 ⟨enterT args 0 tnil, H0, n, 0, []⟩ _ _ Y [] rfl hf h)⟩
        · obtain ⟨n', lv, L', _, _, _, _, _, h'⟩ := hk
          exact fin none L' Y' ⟨T', H', n', lv, D'⟩ h'
        · cases r with
          | norm T H D => exact hx.elim
          | pan v T H D =>
            obtain ⟨n', lv, L', _, _, _, _, _, h'⟩ := hx
            exact fin (some v) L' Y' ⟨T, H, n', lv, D⟩ h'
          | exit id T H D =>
            obtain ⟨n', lv, L', _, _, _, _, _, h'⟩ := hx
            exact h'.elim
          | ret T H D =>
            obtain ⟨n', lv, L', _, _, _, _, _, h'⟩ := hx
            exact fin none L' Y' ⟨T, H, n', lv, D⟩ h'
      · exact h.elim
    · exact h.elim
  · exact h.elim
end
end Go.Sx
