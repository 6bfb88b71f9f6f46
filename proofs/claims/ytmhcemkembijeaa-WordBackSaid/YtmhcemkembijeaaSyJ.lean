/-
  The evaluator with loops by templates is right.
-/
import Derived.Test.YtmhcemkembijeaaSyI
set_option linter.unusedVariables false
set_option linter.unusedSimpArgs false
namespace Go.Sx

theorem flat_len : ∀ {sh : List (Option Nat)} {l vs : List AV}, flat sh l = some vs → vs.length = shLen sh
  | [], [], vs, h => by cases h; rfl
  | none :: s, a :: r, vs, h => by
    unfold flat at h
    split at h
    · rename_i l' hl
      cases h
      simp only [List.length_cons, shLen, flat_len hl]
    · cases h
  | some m :: s, .agg cs :: r, vs, h => by
    simp only [flat] at h
    split at h
    · rename_i hd
      have hd : cs.length = m := of_decide_eq_true hd
      split at h
      · rename_i l' hl
        cases h
        simp only [List.length_append, shLen, flat_len hl, hd]
        rfl
      · cases h
    · cases h
  | [], _ :: _, vs, h => by cases h
  | none :: _, [], vs, h => by cases h
  | some _ :: _, [], vs, h => by cases h
  | some m :: s, .opq :: r, vs, h => by cases h
  | some m :: s, .bool _ :: r, vs, h => by cases h
  | some m :: s, .int _ _ :: r, vs, h => by cases h
  | some m :: s, .flt _ _ :: r, vs, h => by cases h
  | some m :: s, .nan _ :: r, vs, h => by cases h
  | some m :: s, .str _ :: r, vs, h => by cases h
  | some m :: s, .nptr :: r, vs, h => by cases h
  | some m :: s, .ptr _ _ :: r, vs, h => by cases h
  | some m :: s, .vptr _ :: r, vs, h => by cases h
  | some m :: s, .nsl :: r, vs, h => by cases h
  | some m :: s, .sl .. :: r, vs, h => by cases h
  | some m :: s, .vsl .. :: r, vs, h => by cases h
  | some m :: s, .nmap :: r, vs, h => by cases h
  | some m :: s, .map _ :: r, vs, h => by cases h
  | some m :: s, .nfn :: r, vs, h => by cases h
  | some m :: s, .fn .. :: r, vs, h => by cases h
  | some m :: s, .nif :: r, vs, h => by cases h
  | some m :: s, .iface .. :: r, vs, h => by cases h
  | some m :: s, .tup _ :: r, vs, h => by cases h
  | some m :: s, .sym _ :: r, vs, h => by cases h
  | some m :: s, .slx .. :: r, vs, h => by cases h
  | some m :: s, .ptx .. :: r, vs, h => by cases h
theorem flatV_len {sh : List (Option Nat)} {v : AV} {vs : List AV} (h : flatV sh v = some vs) : vs.length = shLen sh := by
  unfold flatV at h
  split at h
  · exact flat_len h
  · split at h
    · exact flat_len h
    · cases h

theorem okL_append : ∀ {a b : List AV}, okL (a ++ b) = true → okL a = true ∧ okL b = true
  | [], b, h => ⟨rfl, h⟩
  | x :: r, b, h => by
    rw [List.cons_append, okL_cons] at h
    obtain ⟨h1, h2⟩ := and_split h
    obtain ⟨h3, h4⟩ := okL_append h2
    exact ⟨by rw [okL_cons, h1, h3]; rfl, h4⟩

theorem flat_con {E E' : Env} (him : ∀ b o v, E.imm b o = some v → E'.imm b o = some v) : ∀ (sh : List (Option Nat)) (n : Nat) (l vs : List AV) (us : List Value), flat sh l = some vs → okL vs = true → ConL E l us →
    (∀ i a, vs[i]? = some a → E'.sy (n + i) = some a) → ConL E' (shapes n sh) us
  | [], n, l, vs, us, h, hok, hc, hs => by
    cases l with
    | nil => simpa [shapes, ConL] using hc
    | cons a r => cases h
  | none :: s, n, l, vs, us, h, hok, hc, hs => by
    cases l with
    | nil => cases h
    | cons a r =>
      unfold flat at h
      split at h
      · rename_i l' hl
        cases h
        rw [okL_cons] at hok
        obtain ⟨k1, k2⟩ := and_split hok
        simp only [ConL] at hc
        obtain ⟨u, q, rfl, c1, c2⟩ := hc
        simp only [shapes, ConL]
        refine ⟨u, q, rfl, ?_, flat_con him s (n + 1) r l' q hl k2 c2 fun i b hb => ?_⟩
        · simp only [Con]
          exact ⟨a, by simpa using hs 0 a rfl, okC_one k1, con0_imm him (okC_con0 k1 c1)⟩
        · have := hs (i + 1) b (by simpa using hb)
          rw [show n + 1 + i = n + (i + 1) by omega]; exact this
      · cases h
  | some m :: s, n, l, vs, us, h, hok, hc, hs => by
    cases l with
    | nil => cases h
    | cons a r =>
      have ha : ∃ cs, a = .agg cs := by cases a <;> first | exact ⟨_, rfl⟩ | (cases h)
      obtain ⟨cs, rfl⟩ := ha
      simp only [flat] at h
      split at h
      · rename_i hd
        have hd : cs.length = m := of_decide_eq_true hd
        subst hd
        split at h
        · rename_i l' hl
          cases h
          obtain ⟨k1, k2⟩ := okL_append hok
          simp only [ConL] at hc
          obtain ⟨u, q, rfl, c1, c2⟩ := hc
          simp only [shapes, ConL]
          refine ⟨u, q, rfl, ?_, flat_con him s (n + cs.length) r l' q hl k2 c2 fun i b hb => ?_⟩
          · simp only [Con] at c1 ⊢
            obtain ⟨ws, rfl, c3⟩ := c1
            refine ⟨ws, rfl, symsFrom_con n cs ws k1 (fun i b hb => hs i b ?_) (con0L_imm him (okL_con0 k1 c3))⟩
            rw [List.getElem?_append_left (by exact (List.getElem?_eq_some_iff.1 hb).1)]
            exact hb
          · have := hs (cs.length + i) b (by rw [List.getElem?_append_right (by omega)]; simpa using hb)
            rw [show n + cs.length + i = n + (cs.length + i) by omega]; exact this
        · cases h
      · cases h
theorem flatV_con {E E' : Env} (him : ∀ b o v, E.imm b o = some v → E'.imm b o = some v) {sh : List (Option Nat)} {n : Nat} {v : AV} {vs : List AV} {u : Value} (h : flatV sh v = some vs) (hok : okL vs = true) (hc : Con E v u)
    (hs : ∀ i a, vs[i]? = some a → E'.sy (n + i) = some a) : Con E' (shapeV n sh) u := by
  have tup : ∀ (sh : List (Option Nat)) (l : List AV), v = .tup l → flat sh l = some vs → Con E' (.tup (shapes n sh)) u := fun sh l e hfl => by
    subst e
    simp only [Con] at hc
    obtain ⟨us, rfl, c⟩ := hc
    have := flat_con him sh n l vs us hfl hok c hs
    simp only [Con]; exact ⟨us, rfl, this⟩
  have isT : ∀ sh : List (Option Nat), (∀ s, sh ≠ [s]) → flatV sh v = some vs → ∃ l, v = .tup l ∧ flat sh l = some vs := fun sh hne h => by
    unfold flatV at h
    split at h
    · rename_i s; exact absurd rfl (hne s)
    · split at h
      · exact ⟨_, rfl, h⟩
      · cases h
  match sh, h with
  | [], h =>
    obtain ⟨l, e, h⟩ := isT [] (fun s e => by cases e) h
    exact tup [] l e h
  | [none], h =>
    have := flat_con him [none] n [v] vs [u] h hok (ConL.cons hc (ConL.nil E)) hs
    simp only [shapes, ConL] at this
    obtain ⟨w, r, e, c, rfl⟩ := this
    cases e; exact c
  | [some m], h =>
    have := flat_con him [some m] n [v] vs [u] h hok (ConL.cons hc (ConL.nil E)) hs
    simp only [shapes, ConL] at this
    obtain ⟨w, r, e, c, rfl⟩ := this
    cases e; exact c
  | a :: b :: r, h =>
    obtain ⟨l, e, h⟩ := isT (a :: b :: r) (fun s e => by cases e) h
    exact tup (a :: b :: r) l e h

variable [Gl]
section
variable {P : Program} {N : Nat} {Q : AV → Prop} {fuel : Nat} {c : VC}
abbrev LVs := List (Nat → List AV → Prop)
def Good (P : Program) (c : VC) (n : Nat) (Y : Sy) : Prop := Fresh Y n ∧ KnownF P c.fc Y
def kV (P : Program) (Q : AV → Prop) (c : VC) (L0 : LVs) (n0 : Nat) (Y0 : Sy) (K : VS → VT) : KP := fun Y T H D => ∃ (n lv : Nat) (L : LVs), L0 <+: L ∧ L.length = lv ∧ n0 ≤ n ∧ Ext n0 Y0 Y ∧ Good P c n Y ∧ VOK P Q L Y (K ⟨T, H, n, lv, D⟩)
def xV (P : Program) (Q : AV → Prop) (c : VC) (L0 : LVs) (n0 : Nat) (Y0 : Sy) (X : VX → VT) : XP := fun Y r => match r with
  | .exit id T H D => ∃ (n lv : Nat) (L : LVs), L0 <+: L ∧ L.length = lv ∧ n0 ≤ n ∧ Ext n0 Y0 Y ∧ Good P c n Y ∧ VOK P Q L Y (X (.exit id ⟨T, H, n, lv, D⟩))
  | .ret T H D => ∃ (n lv : Nat) (L : LVs), L0 <+: L ∧ L.length = lv ∧ n0 ≤ n ∧ Ext n0 Y0 Y ∧ Good P c n Y ∧ VOK P Q L Y (X (.ret ⟨T, H, n, lv, D⟩))
  | .pan v T H D => ∃ (n lv : Nat) (L : LVs), L0 <+: L ∧ L.length = lv ∧ n0 ≤ n ∧ Ext n0 Y0 Y ∧ Good P c n Y ∧ VOK P Q L Y (X (.pan v ⟨T, H, n, lv, D⟩))
  | _ => False
theorem kV_mono {L0 L1 : LVs} {n0 n1 : Nat} {Y0 Y1 : Sy} {K : VS → VT} (hL : L0 <+: L1) (hn : n0 ≤ n1) (hx : Ext n0 Y0 Y1) {Y : Sy} {T : Tm} {H : AHeap} {D : Dfs} (h : kV P Q c L1 n1 Y1 K Y T H D) : kV P Q c L0 n0 Y0 K Y T H D := by
  obtain ⟨n, lv, L, h1, h2, h3, h4, h5, h6⟩ := h
  exact ⟨n, lv, L, hL.trans h1, h2, by omega, hx.trans h4 hn, h5, h6⟩
theorem xV_mono {L0 L1 : LVs} {n0 n1 : Nat} {Y0 Y1 : Sy} {X : VX → VT} (hL : L0 <+: L1) (hn : n0 ≤ n1) (hx : Ext n0 Y0 Y1) {Y : Sy} {r : CRes} (h : xV P Q c L1 n1 Y1 X Y r) : xV P Q c L0 n0 Y0 X Y r := by
  cases r with
  | exit id T H D =>
    obtain ⟨n, lv, L, h1, h2, h3, h4, h5, h6⟩ := h
    exact ⟨n, lv, L, hL.trans h1, h2, by omega, hx.trans h4 hn, h5, h6⟩
  | ret T H D =>
    obtain ⟨n, lv, L, h1, h2, h3, h4, h5, h6⟩ := h
    exact ⟨n, lv, L, hL.trans h1, h2, by omega, hx.trans h4 hn, h5, h6⟩
  | norm T H D => exact h.elim
  | pan v T H D =>
    obtain ⟨n, lv, L, h1, h2, h3, h4, h5, h6⟩ := h
    exact ⟨n, lv, L, hL.trans h1, h2, by omega, hx.trans h4 hn, h5, h6⟩

theorem Good.put {n : Nat} {Y : Sy} (h : Good P c n Y) (a : AV) : Good P c (n + 1) (Y.put n a) := ⟨h.1.put a, h.2.sub (h.1.sub_put a) (h.1.low a)⟩
theorem Good.puts {n : Nat} {Y : Sy} (h : Good P c n Y) (l : List AV) : Good P c (n + l.length) (Y.puts n l) := by
  obtain ⟨h1, h2, h3, h4⟩ := h.1.puts l
  exact ⟨h1, h.2.sub h2 h4⟩

/-- what comes behind one step -/
def Nx (P : Program) (Q : AV → Prop) (c : VC) (L : LVs) (S : VS) (Y : Sy) (kt : VS → VT) (next : KP) : Prop :=
  ∀ Y' (S' : VS), S'.lv = S.lv → S.n ≤ S'.n → Ext S.n Y Y' → Good P c S'.n Y' → VOK P Q L Y' (kt S') → next Y' S'.T S'.H S'.D

theorem let_okV {o : Oper} {op : XOp} {args : List AV} {S : VS} {Y : Sy} {L : LVs} (hf : Good P c S.n Y) (hl : letOf S.T o = some (op, args)) (hs : symOkL args = true) {u : Tm → AV → Tm} {next : KP} {m : Option Nat} {t : VT}
    (ht : VOK P Q L Y (.lt op args S.n m t)) (hn : ∀ Y' x n', S.n ≤ n' → Ext S.n Y Y' → Good P c n' Y' → VOK P Q L Y' t → (m = none → x = .sym S.n ∧ n' = Nat.succ S.n) → (∀ j, m = some j → x = .agg (symsFrom S.n j) ∧ n' = Nat.add S.n j) → next Y' (u S.T x) S.H S.D) :
    wLet P N 0 o u Y S.T S.H S.D next := by
  cases m with
  | none =>
    obtain ⟨r, hr, hok, htree⟩ := ht
    refine ⟨Y.put S.n r, .sym S.n, S.H, hn _ _ _ (Nat.le_succ _) (Ext.put r (Nat.le_refl _)) (hf.put r) htree (fun _ => ⟨rfl, rfl⟩) (fun j e => by cases e), fun B pr E a w hy st => ?_⟩
    obtain ⟨E', n, v, w', h1, h2, h3, st', h5⟩ := let_run hl hs hr hy st
    have hy' := hy.le h3
    have hv : ∀ i x, E'.sy i = some x → (Y.put S.n r).v i = some x := fun i x hx => hf.1.sub_put r i x (by rw [← hy'.v]; exact hx)
    have hll : ∀ i l, E'.syl i = some l → (Y.put S.n r).l i = some l := fun i l hx => by rw [hy'.l] at hx; exact hx
    have hlo : ∀ i, i < 64 → (Y.put S.n r).v i = E'.sy i := fun i hi => by rw [hy'.v]; exact hf.1.low r i hi
    refine ⟨E'.with (Y.put S.n r), n, v, w', h1, h2, (h3.leF 0).trans (Env.with_leF 0 hlo), ⟨rfl, rfl, hy'.res⟩, st'.with hv hll hlo, ?_⟩
    simp only [Con]
    exact ⟨r, Sy.put_same _ _ _, okC_one hok, (okC_con0 hok h5).with⟩
  | some j =>
    obtain ⟨cs, hr, hlen, hok, htree⟩ := ht
    obtain ⟨f1, f2, f3, f4⟩ := hf.1.puts cs
    refine ⟨Y.puts S.n cs, .agg (symsFrom S.n j), S.H, hn _ _ (Nat.add S.n j) (Nat.le_add_right _ _) (Ext.puts cs _ (Nat.le_refl _)) (by rw [← hlen]; exact hf.puts cs) htree (fun e => by cases e) (fun j' e => by cases e; exact ⟨rfl, rfl⟩), fun B pr E a w hy st => ?_⟩
    obtain ⟨E', n, v, w', h1, h2, h3, st', h5⟩ := let_run hl hs hr hy st
    have hy' := hy.le h3
    have hv : ∀ i x, E'.sy i = some x → (Y.puts S.n cs).v i = some x := fun i x hx => f2 i x (by rw [← hy'.v]; exact hx)
    have hll : ∀ i l, E'.syl i = some l → (Y.puts S.n cs).l i = some l := fun i l hx => by rw [f3]; rw [hy'.l] at hx; exact hx
    have hlo : ∀ i, i < 64 → (Y.puts S.n cs).v i = E'.sy i := fun i hi => by rw [hy'.v]; exact f4 i hi
    refine ⟨E'.with (Y.puts S.n cs), n, v, w', h1, h2, (h3.leF 0).trans (Env.with_leF 0 hlo), ⟨rfl, rfl, hy'.res⟩, st'.with hv hll hlo, ?_⟩
    simp only [Con] at h5 ⊢
    obtain ⟨vs, rfl, hL⟩ := h5
    refine ⟨vs, rfl, ?_⟩
    rw [← hlen]
    exact symsFrom_con S.n cs vs hok (fun i a ha => puts_at cs hf.1 i a ha) (con0L_imm (E := E') (E' := E'.with (Y.puts S.n cs)) (fun _ _ _ h => h) (okL_con0 hok hL))

/-- a state, read in another way -/
def Reads (P : Program) (N : Nat) (Y : Sy) (S S' : VS) : Prop := Weak P N 0 Y S.T S.H S.D Y S'.T S'.H S'.D ∧ ∀ (all : List Oper) (o : Oper) (g : Tm → Option Bool) (t : Bool), guardC all o = .mk g → g S.T = some t → g S'.T = some t
theorem Reads.refl (P : Program) (N : Nat) (Y : Sy) (S : VS) : Reads P N Y S S := ⟨Weak.refl _ _ _ _ _ _ _, fun _ _ _ _ _ h => h⟩
theorem Reads.know {P : Program} {N : Nat} {Y : Sy} {i : Nat} {b : Bool} (hb : Y.v i = some (.bool b)) (S : VS) : Reads P N Y S (S.know i b) := ⟨know_weak hb S.x S.D, fun _ _ _ _ hg h => guard_know hg (S := S.x) h i b⟩
omit [Gl] in
theorem guard_frz {all : List Oper} {o : Oper} {g : Tm → Option Bool} (hg : guardC all o = .mk g) {T : Tm} {t : Bool} (h : g T = some t) (F : AHeap) : g (mapT (frz F) T) = some t := by
  unfold guardC at hg
  split at hg
  · cases hg
  · rename_i j want hgu
    split at hg
    · rename_i oj hoj
      split at hg
      · rename_i d hd
        split at hg
        · cases hg
          have e : (acs d).f (mapT (frz F) T) = frz F ((acs d).f T) := tget_mapT _ _ _
          show boolIs ((acs d).f (mapT (frz F) T)) want = some t
          have h : boolIs ((acs d).f T) want = some t := h
          rw [e]
          generalize (acs d).f T = x at h ⊢
          cases x with
          | tup cs => cases cs <;> first | exact h | (simp [boolIs] at h)
          | _ => first | exact h | (simp [boolIs] at h)
        · cases hg; exact h
      · cases hg; exact h
    · cases hg; exact h
theorem Reads.frz {P : Program} {N : Nat} {Y : Sy} (S : VS) (args : List AV) : Reads P N Y S (vFrz S args) := ⟨freezeL_weak _, fun _ _ _ _ hg h => guard_frz hg h _⟩

/-- a call by what is known of it, at a state -/
theorem call_ok {o : Oper} {u : Tm → AV → Tm} {S S1 : VS} {Y : Sy} {L : LVs} {kt : VS → VT} {next : KP} (hnext : Nx P Q c L S Y kt next) (hn1 : S1.n = S.n) (hl1 : S1.lv = S.lv) (hd1 : S1.D = S.D) (hf : Good P c S.n Y) {g : FuncId} {args : List AV} {sh : List (Option Nat)}
    (hso : symOkL args = true) (hst : (stage P o).run S1.T S1.H = some (.call g args)) (h : VOK P Q L Y (.call g args S.n sh (kt ⟨u S1.T (shapeV S.n sh), S1.H, Nat.add S.n (shLen sh), S.lv, S.D⟩))) : wCL P N 0 o u Y S1.T S1.H S1.D next := by
  rw [← hd1] at h
  obtain ⟨v, vs, hp, hfl, hok, ht⟩ := h
  obtain ⟨f1, f2, f3, f4⟩ := hf.1.puts vs
  have hlen := flatV_len hfl
  refine ⟨g, args, Y.puts S.n vs, shapeV S.n sh, hst, ?_, fun B pr E a w us hy st hcon => ?_⟩
  · refine hnext (Y.puts S.n vs) ⟨u S1.T (shapeV S.n sh), S1.H, Nat.add S.n (shLen sh), S.lv, S1.D⟩ rfl (Nat.le_add_right _ _) (Ext.puts vs _ (Nat.le_refl _)) ?_ ht
    show Good P c (S.n + shLen sh) _
    rw [← hlen]; exact hf.puts vs
  · have hcon' : ConL E (denL Y.v args) us := by
      have := den_con0L hso hcon
      rw [hy.v] at this
      exact this.con
    refine Calls.mono (hp S1.H B pr E w us st.t.gl st.r hcon') fun e w' he => ?_
    obtain ⟨E', hle, u', rfl, h1, h2⟩ := he
    have hy' := hy.le hle
    have st' : St P B pr N E' S1.T S1.H S1.D a w' := ⟨st.t.mono hle, h2, st.d.mono hle⟩
    have hv : ∀ i x, E'.sy i = some x → (Y.puts S.n vs).v i = some x := fun i x hx => f2 i x (by rw [← hy'.v]; exact hx)
    have hll : ∀ i l, E'.syl i = some l → (Y.puts S.n vs).l i = some l := fun i l hx => by rw [f3]; rw [hy'.l] at hx; exact hx
    have hlo : ∀ i, i < 64 → (Y.puts S.n vs).v i = E'.sy i := fun i hi => by rw [hy'.v]; exact f4 i hi
    refine ⟨E'.with (Y.puts S.n vs), u', rfl, (hle.leF 0).trans (Env.with_leF 0 hlo), ⟨rfl, rfl, hy'.res⟩, st'.with hv hll hlo, ?_⟩
    exact flatV_con (E := E') (E' := E'.with (Y.puts S.n vs)) (fun _ _ _ h => h) hfl hok h1 fun i a ha => puts_at vs hf.1 i a ha
theorem vCall_ok (hc : CallOk P (callN P fuel)) {o : Oper} {u : Tm → AV → Tm} {S : VS} {Y : Sy} {L : LVs} {kt : VS → VT} {next : KP} {X : XP} (hnext : Nx P Q c L S Y kt next) (hf : Good P c S.n Y) {g : FuncId} {args : List AV}
    (hst : (stage P o).run S.T S.H = some (.call g args)) (h : VOK P Q L Y (vCall P fuel c o u S g args kt)) :
    ∃ S', Reads P N Y S S' ∧ (wStep P o u Y S'.T S'.H S'.D next X ∨ wLet P N 0 o u Y S'.T S'.H S'.D next ∨ wCL P N 0 o u Y S'.T S'.H S'.D next) := by
  unfold vCall at h
  split at h
  · rename_i sh hsh
    split at h
    · rename_i hso
      exact ⟨S, Reads.refl _ _ _ _, .inr (.inr (call_ok hnext rfl rfl rfl hf hso hst h))⟩
    · split at h
      · rename_i r hst2
        split at h
        · rename_i g' args'
          split at h
          · rename_i hb
            obtain ⟨e1, hso⟩ := and_split hb
            have e1 := Nat.eq_of_beq_eq_true e1
            subst e1
            exact ⟨vFrz S args, Reads.frz S args, .inr (.inr (call_ok (S1 := vFrz S args) hnext rfl rfl rfl hf hso hst2 h))⟩
          · exact h.elim
        · exact h.elim
      · exact h.elim
  · split at h
    · rename_i r hcall
      split at h
      · rename_i a H'
        refine ⟨S, Reads.refl _ _ _ _, .inl ?_⟩
        unfold wStep
        rw [hst]
        refine fun B pr E w vs hy hg hr hcon => Calls.mono (hc g args S.H _ hcall B pr E w vs hg hr hcon) fun e w' he => ⟨_, ?_, he⟩
        exact hnext Y ⟨u S.T a, H', S.n, S.lv, S.D⟩ rfl (Nat.le_refl _) (Ext.refl _ _) hf h
      · exact h.elim
    · exact h.elim

theorem app_okV {o : Oper} {op : XOp} {args : List AV} {S : VS} {Y : Sy} {L : LVs} {kt : VS → VT} {next : KP} (hnext : Nx P Q c L S Y kt next) (hf : Good P c S.n Y) {id sz : Nat} (ha : appVS P S o = some (id, sz, op, args)) {u : Tm → AV → Tm}
    (h : VOK P Q L Y (.lt op args S.n none (kt ⟨u S.T (.slx S.H.next sz S.n), (S.H.erase id).push (.syl S.n), Nat.succ S.n, S.lv, S.D⟩))) : wLet P N 0 o u Y S.T S.H S.D next := by
  obtain ⟨r, hr, hok, htree⟩ := h
  refine ⟨Y.put S.n r, .slx S.H.next sz S.n, (S.H.erase id).push (.syl S.n), hnext _ ⟨u S.T (.slx S.H.next sz S.n), (S.H.erase id).push (.syl S.n), Nat.succ S.n, S.lv, S.D⟩ rfl (Nat.le_succ _) (Ext.put r (Nat.le_refl _)) (hf.put r) htree, fun B pr E a w hy st => ?_⟩
  unfold appVS at ha
  split at ha
  · rename_i hD
    rw [noD_eq hD] at st ⊢
    exact app_let ha hf.1 hr hok hy st
  · cases ha
theorem app2_okV {o : Oper} {op : XOp} {args : List AV} {S : VS} {Y : Sy} {L : LVs} {kt : VS → VT} {next : KP} (hnext : Nx P Q c L S Y kt next) (hf : Good P c S.n Y) {id sz : Nat} (ha : app2VS P S o = some (id, sz, op, args)) {u : Tm → AV → Tm}
    (h : VOK P Q L Y (.lt op args S.n none (kt ⟨u S.T (.slx S.H.next sz S.n), (S.H.erase id).push (.syl S.n), Nat.succ S.n, S.lv, S.D⟩))) : wLet P N 0 o u Y S.T S.H S.D next := by
  obtain ⟨r, hr, hok, htree⟩ := h
  refine ⟨Y.put S.n r, .slx S.H.next sz S.n, (S.H.erase id).push (.syl S.n), hnext _ ⟨u S.T (.slx S.H.next sz S.n), (S.H.erase id).push (.syl S.n), Nat.succ S.n, S.lv, S.D⟩ rfl (Nat.le_succ _) (Ext.put r (Nat.le_refl _)) (hf.put r) htree, fun B pr E a w hy st => ?_⟩
  unfold app2VS at ha
  split at ha
  · rename_i hD
    rw [noD_eq hD] at st ⊢
    exact app_let2 ha hf.1 hr hok hy st
  · cases ha
theorem mup_okV {o : Oper} {op : XOp} {args : List AV} {S : VS} {Y : Sy} {L : LVs} {kt : VS → VT} {next : KP} (hnext : Nx P Q c L S Y kt next) (hf : Good P c S.n Y) {id : Nat} (ha : mupVS P S o = some (id, op, args)) {u : Tm → AV → Tm}
    (h : VOK P Q L Y (.lt op args S.n none (kt ⟨u S.T (.tup []), S.H.set id (.mpl S.n), Nat.succ S.n, S.lv, S.D⟩))) : wLet P N 0 o u Y S.T S.H S.D next := by
  obtain ⟨r, hr, hok, htree⟩ := h
  refine ⟨Y.put S.n r, .tup [], S.H.set id (.mpl S.n), hnext _ ⟨u S.T (.tup []), S.H.set id (.mpl S.n), Nat.succ S.n, S.lv, S.D⟩ rfl (Nat.le_succ _) (Ext.put r (Nat.le_refl _)) (hf.put r) htree, fun B pr E a w hy st => ?_⟩
  unfold mupVS at ha
  split at ha
  · rename_i hD
    rw [noD_eq hD] at st ⊢
    exact mup_let ha hf.1 hr hok hy st
  · cases ha
/-- a value that is read off, known by a symbol from then on -/
theorem read_okV {o : Oper} {op : XOp} {args : List AV} {S : VS} {Y : Sy} {L : LVs} {kt : VS → VT} {next : KP} (hnext : Nx P Q c L S Y kt next) (hf : Good P c S.n Y) {u : Tm → AV → Tm}
    (hlet : ∀ (r : AV), op.run P (denL Y.v args) = some r → ∀ (B : World) (pr : Nat → Prop) (E : Env) (a : Act) (w : World), E.At Y → St P B pr N E S.T S.H S.D a w →
      ∃ E' n v w', (execOp a.eval o).run P w = .ok n w' ∧ (n = .value v ∨ (n = .skip ∧ v = undef)) ∧ E.le E' ∧ St P B pr N E' S.T S.H S.D a w' ∧ Con E' r v)
    (h : VOK P Q L Y (.lt op args S.n none (kt ⟨u S.T (.sym S.n), S.H, Nat.succ S.n, S.lv, S.D⟩))) : wLet P N 0 o u Y S.T S.H S.D next := by
  obtain ⟨r, hr, hok, htree⟩ := h
  refine ⟨Y.put S.n r, .sym S.n, S.H, hnext _ ⟨u S.T (.sym S.n), S.H, Nat.succ S.n, S.lv, S.D⟩ rfl (Nat.le_succ _) (Ext.put r (Nat.le_refl _)) (hf.put r) htree, fun B pr E a w hy st => ?_⟩
  obtain ⟨E', n, v, w', h1, h2, h3, st', h5⟩ := hlet r hr B pr E a w hy st
  have hy' := hy.le h3
  have hv : ∀ i x, E'.sy i = some x → (Y.put S.n r).v i = some x := fun i x hx => hf.1.sub_put r i x (by rw [← hy'.v]; exact hx)
  have hll : ∀ i l, E'.syl i = some l → (Y.put S.n r).l i = some l := fun i l hx => by rw [hy'.l] at hx; exact hx
  have hlo : ∀ i, i < 64 → (Y.put S.n r).v i = E'.sy i := fun i hi => by rw [hy'.v]; exact hf.1.low r i hi
  refine ⟨E'.with (Y.put S.n r), n, v, w', h1, h2, (h3.leF 0).trans (Env.with_leF 0 hlo), ⟨rfl, rfl, hy'.res⟩, st'.with hv hll hlo, ?_⟩
  simp only [Con]
  exact ⟨r, Sy.put_same _ _ _, okC_one hok, (okC_con0 hok h5).with⟩
theorem lenX_okV {o : Oper} {op : XOp} {args : List AV} {S : VS} {Y : Sy} {L : LVs} {kt : VS → VT} {next : KP} (hnext : Nx P Q c L S Y kt next) (hf : Good P c S.n Y) (ha : lenX S.T o = some (op, args)) {u : Tm → AV → Tm}
    (h : VOK P Q L Y (.lt op args S.n none (kt ⟨u S.T (.sym S.n), S.H, Nat.succ S.n, S.lv, S.D⟩))) : wLet P N 0 o u Y S.T S.H S.D next := by
  obtain ⟨r, hr, hok, htree⟩ := h
  refine ⟨Y.put S.n r, .sym S.n, S.H, hnext _ ⟨u S.T (.sym S.n), S.H, Nat.succ S.n, S.lv, S.D⟩ rfl (Nat.le_succ _) (Ext.put r (Nat.le_refl _)) (hf.put r) htree, fun B pr E a w hy st => ?_⟩
  obtain ⟨E', n, v, w', h1, h2, h3, st', h5⟩ := lenX_let ha hr hy st
  have hy' := hy.le h3
  have hv : ∀ i x, E'.sy i = some x → (Y.put S.n r).v i = some x := fun i x hx => hf.1.sub_put r i x (by rw [← hy'.v]; exact hx)
  have hll : ∀ i l, E'.syl i = some l → (Y.put S.n r).l i = some l := fun i l hx => by rw [hy'.l] at hx; exact hx
  have hlo : ∀ i, i < 64 → (Y.put S.n r).v i = E'.sy i := fun i hi => by rw [hy'.v]; exact hf.1.low r i hi
  refine ⟨E'.with (Y.put S.n r), n, v, w', h1, h2, (h3.leF 0).trans (Env.with_leF 0 hlo), ⟨rfl, rfl, hy'.res⟩, st'.with hv hll hlo, ?_⟩
  simp only [Con]
  exact ⟨r, Sy.put_same _ _ _, okC_one hok, (okC_con0 hok h5).with⟩

theorem vLet_okV {o : Oper} {u : Tm → AV → Tm} {S : VS} {Y : Sy} {L : LVs} {kt : VS → VT} {next : KP} (hnext : Nx P Q c L S Y kt next) (hf : Good P c S.n Y) {op : XOp} {args : List AV} (hl : letOf S.T o = some (op, args)) (hs : symOkL args = true)
    (h : VOK P Q L Y (vLet P c u S kt op args)) : wLet P N 0 o u Y S.T S.H S.D next := by
  unfold vLet at h
  split at h
  · split at h
    · rename_i v hv
      exact fact_ok (S := S.x) hf.2 hl hs hv (hnext Y ⟨u S.T v, S.H, S.n, S.lv, S.D⟩ rfl (Nat.le_refl _) (Ext.refl _ _) hf h)
    · refine let_okV hf hl hs h fun Y' x n' f0 f1 f2 f3 f4 f5 => ?_
      obtain ⟨rfl, rfl⟩ := f4 rfl
      exact hnext Y' ⟨_, S.H, _, S.lv, S.D⟩ rfl f0 f1 f2 f3
  · rename_i m hm
    refine let_okV hf hl hs h fun Y' x n' f0 f1 f2 f3 f4 f5 => ?_
    obtain ⟨rfl, rfl⟩ := f5 m rfl
    exact hnext Y' ⟨_, S.H, _, S.lv, S.D⟩ rfl f0 f1 f2 f3

theorem vStep_ok (hc : CallOk P (callN P fuel)) {o : Oper} {u : Tm → AV → Tm} {S : VS} {Y : Sy} {L : LVs} {kt : VS → VT} {next : KP} {Xv : VX → VT} {X : XP} (hnext : Nx P Q c L S Y kt next) (hX : ∀ v, VOK P Q L Y (Xv (.pan v S)) → X Y (.pan v S.T S.H S.D)) (hf : Good P c S.n Y)
    (h : VOK P Q L Y (vStep P fuel c o u S Xv kt)) :
    ∃ S' : VS, Reads P N Y S S' ∧ (wStep P o u Y S'.T S'.H S'.D next X ∨ wLet P N 0 o u Y S'.T S'.H S'.D next ∨ wCL P N 0 o u Y S'.T S'.H S'.D next) := by
  unfold vStep at h
  split at h
  · rename_i r hrun
    split at h
    · rename_i a H'
      refine ⟨S, Reads.refl _ _ _ _, .inl ?_⟩
      unfold wStep
      rw [hrun]
      exact hnext Y ⟨u S.T a, H', S.n, S.lv, S.D⟩ rfl (Nat.le_refl _) (Ext.refl _ _) hf h
    · exact vCall_ok hc hnext hf hrun h
    · rename_i g args
      refine ⟨S, Reads.refl _ _ _ _, .inl ?_⟩
      unfold wStep
      rw [hrun]
      exact hnext Y ⟨u S.T (.tup []), S.H, S.n, S.lv, (g, args) :: S.D⟩ rfl (Nat.le_refl _) (Ext.refl _ _) hf h
    · rename_i v
      refine ⟨S, Reads.refl _ _ _ _, .inl ?_⟩
      unfold wStep
      rw [hrun]
      exact hX v h
    · exact h.elim
  · rename_i hrun
    split at h
    · rename_i i a b hp
      obtain ⟨t, ht, h1, h2⟩ := h
      unfold pickSym at hp
      split at hp
      · rename_i cd a' b' ho
        split at hp
        · rename_i i' hl
          cases hp
          refine ⟨S.know i t, Reads.know ht S, .inl ?_⟩
          have hlook : look (S.know i t).T cd = .bool t := symTmp_know hl S.x rfl t
          have hst : (stage P o).run (S.know i t).T (S.know i t).H = some (.val (match t with | true => look (S.know i t).T a | false => look (S.know i t).T b) S.H) := by
            unfold stage
            rw [ho]
            simp only
            show OC.run (.po fun T => pickA (look T cd) (look T a) (look T b)) _ _ = _
            unfold OC.run
            simp only
            rw [hlook]
            cases t <;> rfl
          unfold wStep
          rw [hst]
          cases t with
          | true => exact hnext Y ⟨u (S.know i true).T (look (S.know i true).T a), S.H, S.n, S.lv, S.D⟩ rfl (Nat.le_refl _) (Ext.refl _ _) hf (h1 rfl)
          | false => exact hnext Y ⟨u (S.know i false).T (look (S.know i false).T b), S.H, S.n, S.lv, S.D⟩ rfl (Nat.le_refl _) (Ext.refl _ _) hf (h2 rfl)
        · cases hp
      · cases hp
    · rename_i hp
      split at h
      · rename_i v hv
        exact ⟨S, Reads.refl _ _ _ _, .inr (.inl (callX_ok (S := S.x) hf.2 hv (hnext Y ⟨u S.T v, S.H, S.n, S.lv, S.D⟩ rfl (Nat.le_refl _) (Ext.refl _ _) hf h)))⟩
      split at h
      · rename_i id sz op args ha
        exact ⟨S, Reads.refl _ _ _ _, .inr (.inl (app_okV hnext hf ha h))⟩
      split at h
      · rename_i id sz op args ha
        exact ⟨S, Reads.refl _ _ _ _, .inr (.inl (app2_okV hnext hf ha h))⟩
      split at h
      · rename_i op args ha
        exact ⟨S, Reads.refl _ _ _ _, .inr (.inl (lenX_okV hnext hf ha h))⟩
      split at h
      · rename_i id op args ha
        exact ⟨S, Reads.refl _ _ _ _, .inr (.inl (mup_okV hnext hf ha h))⟩
      split at h
      · rename_i op args ha
        split at h
        · rename_i hmt
          exact ⟨S, Reads.refl _ _ _ _, .inr (.inl (read_okV hnext hf (fun r hr B pr E a w hy st => mlenX_let ha hmt hr hy st) h))⟩
        · exact h.elim
      split at h
      · rename_i op args ha
        exact ⟨S, Reads.refl _ _ _ _, .inr (.inl (read_okV hnext hf (fun r hr B pr E a w hy st => convX_let ha hr hy st) h))⟩
      split at h
      · rename_i op args ha
        exact ⟨S, Reads.refl _ _ _ _, .inr (.inl (read_okV hnext hf (fun r hr B pr E a w hy st => extX_let ha hr hy st) h))⟩
      split at h
      · rename_i op args hl
        split at h
        · rename_i hs
          exact ⟨S, Reads.refl _ _ _ _, .inr (.inl (vLet_okV hnext hf hl hs h))⟩
        · split at h
          · rename_i op' args' hl'
            split at h
            · rename_i hs
              exact ⟨vFrz S args, Reads.frz S args, .inr (.inl (vLet_okV (S := vFrz S args) hnext hf hl' hs h))⟩
            · exact h.elim
          · exact h.elim
      · exact h.elim

theorem vOp_ok (hc : CallOk P (callN P fuel)) {all : List Oper} {o : Oper} {u : Tm → AV → Tm} {S : VS} {Y : Sy} {L : LVs} {kt : VS → VT} {next : KP} {Xv : VX → VT} {X : XP} (hnext : Nx P Q c L S Y kt next) (hX : ∀ v, VOK P Q L Y (Xv (.pan v S)) → X Y (.pan v S.T S.H S.D)) (hf : Good P c S.n Y)
    (h : VOK P Q L Y (vOp P fuel c all o u Xv kt S)) :
    ∃ S' : VS, Reads P N Y S S' ∧ ∃ t, (match guardC all o with
        | .always => some true
        | .mk g => g S'.T) = some t ∧ (t = true → wStep P o u Y S'.T S'.H S'.D next X ∨ wLet P N 0 o u Y S'.T S'.H S'.D next ∨ wCL P N 0 o u Y S'.T S'.H S'.D next) ∧ (t = false → next Y (u S'.T (.tup [])) S'.H S'.D) := by
  unfold vOp vGuard at h
  split at h
  · rename_i t ht
    split at h
    · exact ⟨S, Reads.refl _ _ _ _, false, ht, (fun e => by cases e), fun _ => hnext Y ⟨u S.T (.tup []), S.H, S.n, S.lv, S.D⟩ rfl (Nat.le_refl _) (Ext.refl _ _) hf h⟩
    · obtain ⟨S', h1, h2⟩ := vStep_ok (N := N) (X := X) hc hnext hX hf h
      refine ⟨S', h1, true, ?_, fun _ => h2, fun e => by cases e⟩
      split at ht
      · rename_i hg; rw [hg]
      · rename_i g hg; rw [hg]; exact h1.2 _ _ _ _ hg ht
  · exact h.elim

theorem frzB_weak (o : Oper) (S : VS) (Y : Sy) : Weak P N 0 Y S.T S.H S.D Y (frzB o S).T (frzB o S).H (frzB o S).D ∧ (frzB o S).n = S.n ∧ (frzB o S).lv = S.lv := by
  unfold frzB
  split
  · split
    · exact ⟨Weak.refl _ _ _ _ _ _ _, rfl, rfl⟩
    · exact ⟨freezeL_weak _, rfl, rfl⟩
  · exact ⟨Weak.refl _ _ _ _ _ _ _, rfl, rfl⟩
theorem vOps_ok (hc : CallOk P (callN P fuel)) {all : List Oper} {X : VX → VT} {K : VS → VT} {L : LVs} : ∀ (l : List Oper) (S : VS) (Y : Sy), L.length = S.lv → Good P c S.n Y → VOK P Q L Y (vOps P N fuel c all X l S K) → wOps P N 0 all l Y S.T S.H S.D (kV P Q c L S.n Y K) (xV P Q c L S.n Y X)
  | [], S, Y, hL, hf, h => ⟨S.n, S.lv, L, List.prefix_refl L, hL, Nat.le_refl _, Ext.refl _ _, hf, h⟩
  | o :: r, S, Y, hL, hf, h => by
    have ih := vOps_ok hc (all := all) (X := X) (K := K) (L := L) r
    have fin : ∀ (S1 : VS) (u : Tm → AV → Tm), putC N o.dst = .mk u → S1.n = S.n → S1.lv = S.lv → Weak P N 0 Y S.T S.H S.D Y S1.T S1.H S1.D → VOK P Q L Y (vOp P fuel c all o u X (fun S => vOps P N fuel c all X r S K) S1) →
        wOps P N 0 all (o :: r) Y S.T S.H S.D (kV P Q c L S.n Y K) (xV P Q c L S.n Y X) := by
      intro S1 u hu hn1 hl1 hw h1
      obtain ⟨S', h2, t, ht, h3, h4⟩ := vOp_ok (N := N) (X := xV P Q c L S.n Y X) (next := fun Y' T H D => wOps P N 0 all r Y' T H D (kV P Q c L S.n Y K) (xV P Q c L S.n Y X)) hc (fun Y' S2 g1 g2 g3 g4 g5 => by
        rw [hn1] at g2 g3
        exact wOps_mono (fun _ _ _ _ hk => kV_mono (List.prefix_refl L) g2 g3 hk) (fun _ _ h => xV_mono (List.prefix_refl L) g2 g3 h) _ _ _ _ _ (ih S2 Y' (by rw [g1, hl1]; exact hL) g4 g5))
        (fun v hv => ⟨S1.n, S1.lv, L, List.prefix_refl L, by rw [hl1]; exact hL, by rw [hn1]; exact Nat.le_refl _, Ext.refl _ _, by rw [hn1]; exact hf, hv⟩) (by rw [hn1]; exact hf) h1
      refine ⟨Y, S'.T, S'.H, S'.D, hw.trans h2.1, ?_⟩
      rw [hu]
      exact ⟨t, ht, h3, h4⟩
    unfold vOps at h
    split at h
    · exact h.elim
    · rename_i u hu
      split at h
      · rename_i i hg
        obtain ⟨t, ht, h1, h2⟩ := h
        cases t with
        | true => exact fin (S.know i true) u hu rfl rfl (know_weak ht S.x S.D) (h1 rfl)
        | false => exact fin (S.know i false) u hu rfl rfl (know_weak ht S.x S.D) (h2 rfl)
      · obtain ⟨w1, w2, w3⟩ := frzB_weak (P := P) (N := N) o S Y
        exact fin (frzB o S) u hu w2 w3 w1 h
end
end Go.Sx
