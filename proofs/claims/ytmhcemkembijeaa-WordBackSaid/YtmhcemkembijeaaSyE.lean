/-
  A call of plain values, run with symbols.
-/
import Derived.Test.YtmhcemkembijeaaSyD
import Derived.Laws.Externs
import Derived.Lib.IndexEntry
set_option linter.unusedVariables false
set_option linter.unusedSimpArgs false
namespace Go.Sx

def okIL : List AV → Bool
  | [] => true
  | a :: r => match okI a with
    | true => okIL r
    | false => false
theorem okIL_con0 {E : Env} : ∀ {as : List AV} {vs : List Value}, okIL as = true → ConL E as vs → Con0L E as vs
  | [], _, _, hc => by simpa [Con0L, ConL] using hc
  | a :: as, vs, h, hc => by
    simp only [ConL] at hc
    simp only [Con0L]
    obtain ⟨v, r, e, c1, c2⟩ := hc
    simp only [okIL] at h
    cases ha : okI a with
    | true => rw [ha] at h; exact ⟨v, r, e, okI_con0 ha c1, okIL_con0 h c2⟩
    | false => rw [ha] at h; cases h
theorem okL_mem : ∀ {l : List AV}, okL l = true → ∀ a ∈ l, okC a = true
  | [], _, a, h => by cases h
  | b :: r, h, a, hm => by
    rw [okL_cons] at h
    obtain ⟨h1, h2⟩ := and_split h
    cases hm with
    | head => exact h1
    | tail _ hm => exact okL_mem h2 a hm
theorem puts_cases : ∀ {Y : Sy} {n : Nat} (l : List AV) (i : Nat) (a : AV), (Y.puts n l).v i = some a → Y.v i = some a ∨ a ∈ l
  | Y, n, [], i, a, h => .inl h
  | Y, n, b :: r, i, a, h => by
    rcases puts_cases (Y := Y.put n b) (n := n + 1) r i a h with h | h
    · by_cases e : i = n
      · subst e; rw [Sy.put_same] at h; cases h; exact .inr (List.mem_cons_self ..)
      · rw [Sy.put_ne _ _ e] at h; exact .inl h
    · exact .inr (List.mem_cons_of_mem _ h)

theorem symsFrom_ok : ∀ n m : Nat, symOkL (symsFrom n m) = true
  | _, 0 => rfl
  | n, m + 1 => by simp only [symsFrom, symOkL, symOk]; exact symsFrom_ok (n + 1) m
theorem den_syms {s : Nat → Option AV} : ∀ (n : Nat) (ls : List AV), (∀ i a, ls[i]? = some a → s (n + i) = some a) → denL s (symsFrom n ls.length) = ls
  | n, [], _ => rfl
  | n, a :: r, h => by
    have h0 : s n = some a := by simpa using h 0 a rfl
    simp only [List.length_cons, symsFrom, denL, den, h0]
    rw [den_syms (n + 1) r fun i b hb => by
      have := h (i + 1) b (by simpa using hb)
      rw [show n + 1 + i = n + (i + 1) by omega]; exact this]
theorem okC_okI {a : AV} (h : okC a = true) : okI a = true := by
  cases a <;> first | (exact h) | (simp [okC] at h)
theorem okL_okIL : ∀ {l : List AV}, okL l = true → okIL l = true
  | [], _ => rfl
  | a :: r, h => by
    rw [okL_cons] at h
    obtain ⟨h1, h2⟩ := and_split h
    simp only [okIL, okC_okI h1]
    exact okL_okIL h2

variable [Gl]
theorem pure_sym {P : Program} {f : FuncId} {args args' ls : List AV} {v : AV} (hok : okIL args = true) (hv : noRef v = true) (hso : symOkL args' = true) (hls : okL ls = true)
    (hden : ∀ Y, Fresh Y 64 → denL (Y.puts 64 ls).v args' = args) (h : ∀ Y, Fresh Y 64 → Gl.gt Y.v → SemCallF P 0 (Y.puts 64 ls) f args' H0 (PureEnd (· = v))) : Pure P f args v := by
  intro H B pr E w vs hg hr hc
  let Yg : Sy := ⟨fun i => if i < 64 then E.sy i else none, fun _ => none⟩
  have hfr : Fresh Yg 64 := ⟨Nat.le_refl _, fun i hi => if_neg (by omega)⟩
  have hlow : ∀ i, i < 64 → Yg.v i = E.sy i := fun i hi => if_pos hi
  have hgt : Gl.gt Yg.v := Gl.gtm _ _ hlow hg.2
  obtain ⟨p1, p2, p3, p4⟩ := hfr.puts ls
  let E1 : Env := ⟨fun _ => none, E.sz, E.imm, fun _ => False, E.imm, (Yg.puts 64 ls).v, (Yg.puts 64 ls).l, fun _ => False⟩
  have hlow1 : ∀ i, i < 64 → E1.sy i = E.sy i := fun i hi => (p4 i hi).trans (hlow i hi)
  have hg1 : GlOk E1 := ⟨fun g => con_noRef (E := E) (E' := E1) (fun _ _ _ h => h) (fun i a hi hx => (hlow1 i hi).trans hx) (Gl.nr g) (hg.1 g), Gl.gtm _ _ hlow1 hg.2⟩
  have hrel : Rel w (fun b => b < w.heap.size) E1 H0 w := {
    own := ⟨fun _ => none, fun id k hk => (h0_none hk).elim, fun _ _ => rfl, fun _ _ _ _ => rfl⟩
    imm := hr.imm
    ib := fun _ _ _ _ h => h
    fresh := fun _ _ _ => rfl
    resv := fun _ h => h.elim
    vds := fun _ h => h.elim
    szs := hr.szs
    prot := fun b h => ⟨h, rfl⟩
    size := Nat.le_refl _
    os := rfl
    output := rfl }
  have hone : ∀ i a, E1.sy i = some a → a.one = true := fun i a hx => by
    rcases puts_cases ls i a hx with hx | hx
    · by_cases hi : i < 64
      · exact Gl.gto _ hgt i a hi hx
      · have : Yg.v i = none := if_neg hi
        rw [this] at hx; cases hx
    · exact okC_one (okL_mem hls a hx)
  have hcon : ConL E1 args' vs := by
    refine con_denL hone hso ?_
    have : denL E1.sy args' = args := hden Yg hfr
    rw [this]
    exact con0L_imm (E := E) (E' := E1) (fun _ _ _ h => h) (okIL_con0 hok hc)
  refine Calls.mono (h Yg hfr hgt w (fun b => b < w.heap.size) E1 w vs ⟨rfl, rfl, fun _ h => h⟩ hg1 hrel hcon) fun e w' he => ?_
  obtain ⟨Y', r, ⟨a, H1, v', m, rfl, hs, hso', hQ⟩, E', hle, hy', u, rfl, h1, h2⟩ := he
  obtain ⟨E2, f1, f2, f3, f4, _, f5, f6⟩ := h2.freeze
  have hcon2 := snap_con h2 f1 f6 m _ _ _ hs h1
  have hv0 : Con0 E2 v u := by
    have := den_con0 hso' hcon2
    rw [f1.2.2.2.1, hy'.v, hQ] at this
    exact this
  obtain ⟨own, g1, g2, g3⟩ := hr.own
  have hsz : ∀ b n, E.sz b = some n → E2.sz b = some n := fun b n hx => f1.2.1 b n (hle.sz b n hx)
  have him : ∀ b o v, E.imm b o = some v → E2.imm b o = some v := fun b o v hx => f1.2.2.1 b o v (hle.imm b o v hx)
  have hold : ∀ b o v, b < w.heap.size → E2.imm b o = some v → E.imm b o = some v := fun b o v hb hx => by
    have := f5.ib b o v hb hx
    rw [f4, hle.bim] at this
    exact this
  refine ⟨⟨E.φ, E2.sz, E2.imm, E.res, E.bim, E.sy, E.syl, E.vd⟩, ⟨⟨fun _ _ h => h, hsz, him, rfl, rfl⟩, rfl, rfl, rfl⟩, u, rfl, (con0_imm (E := E2) (E' := ⟨E.φ, E2.sz, E2.imm, E.res, E.bim, E.sy, E.syl, E.vd⟩) (fun _ _ _ h => h) hv0).con, ?_⟩
  have hsub : E.sub ⟨E.φ, E2.sz, E2.imm, E.res, E.bim, E.sy, E.syl, E.vd⟩ := ⟨fun _ _ h => h, hsz, him, rfl, rfl⟩
  refine { own := ⟨fun b => if b < w.heap.size then own b else none, fun id k hk => ?_, fun b hb => ?_, fun b o v hx => ?_⟩, imm := f5.imm, ib := fun b o v hb hx => ?_, fresh := hr.fresh, resv := hr.resv, vds := hr.vds, szs := f5.szs, prot := fun b hb => ?_,
           size := Nat.le_trans hr.size h2.size, os := h2.os.trans hr.os, output := h2.output.trans hr.output }
  · exact (g1 id k hk).imp (fun _ h => h) (fun h => h) fun b o e1 e2 e3 => ⟨(if_pos e3.lt).trans e2, e3.sub hsub (h2.prot b e3.lt).2⟩
  · show (if b < w.heap.size then own b else none) = none
    split
    · exact g2 b hb
    · rfl
  · show (if b < w.heap.size then own b else none) = none
    split
    · rename_i hlt
      exact g3 b o v (hold b o v hlt hx)
    · rfl
  · have hlt := Nat.lt_of_lt_of_le (hr.prot b hb).1 hr.size
    exact hr.ib b o v hb (hold b o v hlt hx)
  · obtain ⟨e1, e2⟩ := hr.prot b hb
    exact ⟨e1, (h2.prot b (Nat.lt_of_lt_of_le e1 hr.size)).2.trans e2⟩

def doneT (v : AV) : Tree → Bool
  | .done a => match okI a with
    | true => beqA a v
    | false => false
  | _ => false
omit [Gl] in
theorem doneT_ok {P : Program} {v : AV} {t : Tree} {Y : Sy} (h : doneT v t = true) : TreeOK P (· = v) Y t := by
  unfold doneT at h
  split at h
  · split at h
    · rename_i hok
      have := beqA_eq h
      subst this
      exact den_okI _ hok
    · cases h
  · cases h
/-- package variable g holds a number -/
def glI (g : Nat) : Nat → AV := fun i => match Nat.beq i g with
  | true => .vptr [.sym 0]
  | false => .opq
omit [Gl] in
theorem nrI (g i : Nat) : noRef (glI g i) = true := by
  unfold glI
  split <;> simp [noRef, noRefL, Nat.blt]
def gtI (s : Nat → Option AV) : Prop := ∃ m : Int, s 0 = some (.int .i64 m) ∧ ∀ i, i < 64 → i ≠ 0 → s i = none
/-- what is read off the heap -/
abbrev RD := FuncId → List AV → AHeap → Option AV
def rd0 : RD := fun _ _ _ => none
def ovR (l : List (FuncId × List AV × AV)) (rd : RD) (f : FuncId) (args : List AV) (H : AHeap) : Option AV := match ovIn l f args with
  | some v => some v
  | none => rd f args H
abbrev glTI (g : Nat) (l : List (FuncId × List AV × AV)) (rd : RD := rd0) : Gl := ⟨glI g, ovR l rd, nrI g, gtI,
  fun s s' h hs => by
    obtain ⟨m, h1, h2⟩ := hs
    exact ⟨m, (h 0 (by omega)).trans h1, fun i hi hn => (h i hi).trans (h2 i hi hn)⟩,
  fun s hs i a hi ha => by
    obtain ⟨m, h1, h2⟩ := hs
    by_cases e : i = 0
    · subst e; rw [h1] at ha; cases ha; rfl
    · rw [h2 i hi e] at ha; cases ha⟩
/-- the number is not below c, or it is -/
def factsI (c : Int) (b : Bool) : List Fact := [⟨.leq, false, 0, .int .i64 c, .bool b⟩, ⟨.gtr, false, 0, .int .i64 c, .bool (not b)⟩]
/-- a closed call, run with the one symbol, which is held against c; fx: internal/bytealg.IndexString -/
def memoI (P : Program) (n : Nat) (c : Int) (fx : FuncId) (f : FuncId) (args : List AV) (v : AV) : Bool := match okIL args && (noRef v && symOkL args) with
  | true => doneT v (xFn P n ⟨factsI c true, [⟨fx, args, v⟩]⟩ f args 64) && doneT v (xFn P n ⟨factsI c false, []⟩ f args 64)
  | false => false
omit [Gl] in
theorem factsI_ok {P : Program} {c m : Int} {Y : Sy} (h : Y.v 0 = some (.int .i64 m)) : ∀ f ∈ factsI c (decide (c ≤ m)), okC f.v = true ∧ okC f.c = true ∧ ∃ a, Y.v f.i = some a ∧ f.ok P a := by
  intro f hf
  have hlt : ltI m c = decide (m < c) := ltI_eq m c
  have hn : (!decide (m < c)) = decide (c ≤ m) := not_lt_eq m c
  simp only [factsI, List.mem_cons, List.not_mem_nil, or_false] at hf
  rcases hf with rfl | rfl
  · refine ⟨rfl, rfl, _, h, fun t cx cy => ?_⟩
    show some (AV.bool (not (ltI m c))) = some (.bool (decide (c ≤ m)))
    rw [hlt, hn]
  · refine ⟨rfl, rfl, _, h, fun t cx cy => ?_⟩
    show some (AV.bool (ltI m c)) = some (.bool (not (decide (c ≤ m))))
    rw [hlt, ← hn, Bool.not_not]
/-- the search without a body, at two strings -/
def idxB (args : List AV) (c : Int) (v : AV) : Bool := match args with
  | [.str a, .str b] => match v with
    | .int .i64 r => Nat.ble 2 b.length && (decide ((b.length : Int) ≤ c) && (Nat.blt a.length 4294967281 && decide (Lib.index a b = r)))
    | _ => false
  | _ => false
omit [Gl] in
theorem den_okIL (s : Nat → Option AV) : ∀ {l : List AV}, okIL l = true → denL s l = l
  | [], _ => rfl
  | a :: r, h => by
    simp only [okIL] at h
    cases ha : okI a with
    | true =>
      rw [ha] at h
      simp only [denL]
      rw [den_okI s ha, den_okIL s h]
    | false => rw [ha] at h; cases h
omit [Gl] in
theorem memoI_ok {P : Program} (hm : P.follows .mixedOrders = true) {g : Nat} {l : List (FuncId × List AV × AV)} {rd : RD} (ho : @OvOk (glTI g l rd) P) {n : Nat} {c : Int} {fx f : FuncId} {fn : Func} {args : List AV} {v : AV}
    (hfx : P.funcs[fx]? = some fn) (hnm : (fn.name == "runtime.NumGoroutine") = false) (hb : fn.body.isNone = true) (hn : Extern.findNext fn = none) (he : Extern.find fn = some Extern.BytealgIndex.index)
    (hgv : P.globals.findIdx? (·.name == (entryReads.headD ("", "")).2) = some g) (hix : idxB args c v = true)
    (h : @memoI (glTI g l rd) P n c fx f args v = true) : @Pure (glTI g l rd) P f args v := by
  unfold memoI at h
  split at h
  · rename_i hna
    obtain ⟨h1, h2⟩ := and_split hna
    obtain ⟨h2, h3⟩ := and_split h2
    obtain ⟨q1, q2⟩ := and_split h
    refine @pure_sym (glTI g l rd) P f args args [] v h1 h2 h3 rfl (fun Y _ => den_okIL _ h1) fun Y hf hg => ?_
    obtain ⟨m, hg1, hg2⟩ := hg
    have hk := factsI_ok (P := P) (c := c) (m := m) (Y := Y) hg1
    by_cases hle : c ≤ m
    · have hb' : decide (c ≤ m) = true := decide_eq_true hle
      rw [hb'] at hk
      have hx : ∀ q ∈ [(⟨fx, args, v⟩ : XF)], @XOk (glTI g l rd) P Y q := by
        intro q hq
        simp only [List.mem_cons, List.not_mem_nil, or_false] at hq
        subst hq
        intro B pr E H w vs hy hgl hr hcon
        unfold idxB at hix
        split at hix
        · rename_i a b
          have hv : ∃ r, v = .int .i64 r ∧ (Nat.ble 2 b.length && (decide ((b.length : Int) ≤ c) && (Nat.blt a.length 4294967281 && decide (Lib.index a b = r)))) = true := by
            cases v with
            | int k r => cases k <;> first | exact ⟨r, rfl, hix⟩ | (cases hix)
            | _ => cases hix
          · obtain ⟨r, rfl, hix⟩ := hv
            obtain ⟨i1, hix⟩ := and_split hix
            obtain ⟨i2, hix⟩ := and_split hix
            obtain ⟨i3, i4⟩ := and_split hix
            have i1 : 2 ≤ b.length := Nat.le_of_ble_eq_true i1
            have i2 : (b.length : Int) ≤ c := of_decide_eq_true i2
            have i3 : (ByteArray.mk ⟨a⟩).size < 4294967281 := by
              show a.length < 4294967281
              simpa [Nat.blt_eq] using i3
            have i4 : Lib.index a b = r := of_decide_eq_true i4
            simp only [ConL, Con] at hcon
            obtain ⟨v1, r1, rfl, rfl, v2, r2, rfl, rfl, rfl⟩ := hcon
            have hcell : w.cell? ⟨g, 0, none⟩ = some (.int .i64 m) := by
              have hgg := hgl.1 g
              have : @Gl.gl (glTI g l rd) g = .vptr [.sym 0] := by show glI g g = _; unfold glI; rw [Nat.beq_refl]
              rw [this] at hgg
              simp only [Con, ConL] at hgg
              obtain ⟨b0, o0, vs0, e0, ⟨u0, r0, rfl, ⟨a0, e1, e2, e3⟩, rfl⟩, himm⟩ := hgg
              cases e0
              rw [hy 0 (by omega)] at e1
              have e1 : (Y.puts 64 []).v 0 = some a0 := e1
              have : Y.v 0 = some a0 := e1
              rw [hg1] at this
              cases this
              simp only [Con0] at e3
              subst e3
              have := hr.imm _ _ _ (himm 0 _ rfl)
              simpa using this
            refine ⟨.int .i64 r, ?_, by simp only [Con]⟩
            have hs2 : 2 ≤ (ByteArray.mk ⟨b⟩).size := i1
            have hs3 : (((ByteArray.mk ⟨b⟩).size : Nat) : Int) ≤ m := Int.le_trans i2 hle
            show (callFunc fx #[.string ⟨⟨a⟩⟩, .string ⟨⟨b⟩⟩]).run P w = _
            rw [run_callFunc_extern hfx hnm hb hn he, Lib.run_indexString _ _ w g m hgv hcell hs2 hs3 i3]
            simp only [Result.andThen]
            have : Lib.index (ByteArray.mk ⟨a⟩).data.toList (ByteArray.mk ⟨b⟩).data.toList = r := i4
            rw [this]
        · cases hix
      exact @xFn_ok (glTI g l rd) P (· = v) n _ hm (@callN_ok (glTI g l rd) P hm ho n) f args 64 Y ⟨hf, hk, hx⟩ (doneT_ok q1)
    · have hb' : decide (c ≤ m) = false := decide_eq_false hle
      rw [hb'] at hk
      exact @xFn_ok (glTI g l rd) P (· = v) n _ hm (@callN_ok (glTI g l rd) P hm ho n) f args 64 Y ⟨hf, hk, fun _ h => by cases h⟩ (doneT_ok q2)
  · cases h
omit [Gl] in
theorem ov_consI {g : Nat} {P : Program} {l l' : List (FuncId × List AV × AV)} {rd rd' : RD} {F : FuncId} {A : List AV} {V : AV} (ho : @OvOk (glTI g l rd) P) (hp : @Pure (glTI g l' rd') P F A V) : @OvOk (glTI g ((F, A, V) :: l) rd) P := by
  intro f args v H h
  have h : ovR ((F, A, V) :: l) rd f args H = some v := h
  have hr : ovIn l f args = ovIn l f args → ∀ x, (match ovIn l f args with
      | some v => some v
      | none => rd f args H) = some x → @Gl.ov (glTI g l rd) f args H = some x := fun _ x hx => hx
  unfold ovR ovIn at h
  cases hf : Nat.beq f F with
  | true =>
    rw [hf] at h
    cases ha : beqL args A with
    | true =>
      rw [ha] at h
      have h : some V = some v := h
      cases h
      have := Nat.eq_of_beq_eq_true hf
      subst this
      rw [beqL_eq ha]
      exact hp H
    | false =>
      rw [ha] at h
      exact ho f args v H (hr rfl v h)
  | false =>
    rw [hf] at h
    exact ho f args v H (hr rfl v h)
omit [Gl] in
theorem ov_nilI (g : Nat) (P : Program) : @OvOk (glTI g []) P := fun f args v H h => by cases h
omit [Gl] in
theorem ov_nilR {g : Nat} {P : Program} {rd : RD} (h : ∀ (f : FuncId) (args : List AV) (v : AV) (H : AHeap), rd f args H = some v → ∀ (B : World) (pr : Nat → Prop) (E : Env) (w : World) (vs : List Value), @GlOk (glTI g []) E → Rel B pr E H w → ConL E args vs →
    Calls P f ⟨vs⟩ w (FPost B pr E (.ret v H))) : @OvOk (glTI g [] rd) P := fun f args v H hv => h f args v H hv
omit [Gl] in
/-- a closed law from a table, where package variable g holds a number -/
theorem runI {P : Program} (hm : P.follows .mixedOrders = true) {g : Nat} {l : List (FuncId × List AV × AV)} {rd : RD} (ho : @OvOk (glTI g l rd) P) {n : Nat} {f : FuncId} (h : @runTrue (glTI g l rd) P n f = true) (w : World) {m : Int}
    (hw : w.cell? ⟨g, 0, none⟩ = some (.int .i64 m)) : Calls P f #[] w fun e w' => e = .returned (.bool true) ∧ GrownB w w' := by
  unfold runTrue at h
  split at h
  · rename_i H hc
    let im : Nat → Nat → Option Value := fun b o => if b = g ∧ o = 0 then some (.int .i64 m) else none
    have hi : ∀ b o v, im b o = some v → w.cell? ⟨b, o, none⟩ = some v := fun b o v hv => by
      simp only [im] at hv
      split at hv
      · rename_i e; obtain ⟨rfl, rfl⟩ := e; cases hv; exact hw
      · cases hv
    let E : Env := { envOf im with sy := fun i => if i = 0 then some (.int .i64 m) else none }
    have hr : Rel w (fun b => b < w.heap.size) E H0 w := {
      own := ⟨fun _ => none, fun id k hk => (h0_none hk).elim, fun _ _ => rfl, fun _ _ _ _ => rfl⟩
      imm := hi
      ib := fun _ _ _ _ h => h
      fresh := fun _ _ _ => rfl
      resv := fun _ h => h.elim
      vds := fun _ h => h.elim
      szs := fun _ _ h => by cases h
      prot := fun b h => ⟨h, rfl⟩
      size := Nat.le_refl _
      os := rfl
      output := rfl }
    have hg : @GlOk (glTI g l rd) E := by
      refine ⟨fun i => ?_, m, rfl, fun i _ hn => by show (if i = 0 then _ else _) = none; rw [if_neg hn]⟩
      show Con E (glI g i) _
      unfold glI
      split
      · rename_i hb
        have := Nat.eq_of_beq_eq_true hb
        subst this
        simp only [Con, ConL]
        refine ⟨i, 0, [.int .i64 m], rfl, ⟨_, _, rfl, ⟨.int .i64 m, rfl, rfl, by simp [Con0]⟩, rfl⟩, fun j v hv => ?_⟩
        cases j with
        | zero => simp only [List.getElem?_cons_zero] at hv; cases hv; show (if i = i ∧ 0 + 0 = 0 then _ else _) = _; simp
        | succ j => simp at hv
      · simp [Con]
    refine Calls.mono (@callN_ok (glTI g l rd) P hm ho n f [] H0 _ hc w (fun b => b < w.heap.size) E w [] hg hr (ConL.nil _)) fun e w' he => ?_
    obtain ⟨E', _, u, rfl, h1, h2⟩ := he
    simp only [Con] at h1
    subst h1
    exact ⟨rfl, grown_of h2.size (fun b hb => (h2.prot b hb).2) h2.os h2.output⟩
  · cases h
end Go.Sx
