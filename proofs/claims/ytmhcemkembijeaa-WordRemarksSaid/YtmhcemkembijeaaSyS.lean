/-
  Arguments that are read: what a reading of plain data gives, as values; the same reading behind a call that has laid new blocks alone.
-/
import Derived.Test.YtmhcemkembijeaaSyG
import Derived.ChangeReads
import Derived.ChangeArms
import Derived.ChangeShapes
import Derived.WideShapes
set_option linter.unusedVariables false
set_option linter.unusedSimpArgs false
namespace Go.Sx
open Go.ChangeShapes Go.WideShapes
theorem okL_join {a b : List AV} (ha : okL a = true) (hb : okL b = true) : okL (a ++ b) = true := by
 induction a with
 | nil => exact hb
 | cons x r ih =>
   rw [okL_cons] at ha
   obtain ⟨k1, k2⟩ := and_split ha
   rw [List.cons_append, okL_cons, k1, ih k2]; rfl
section
variable {H : Type} {enc : TypeId × Value → H} {P : Program} {w : World} {base : Nat} {spare : Nat → Bool} {held : Bool}
def imOf (w : World) (ps : List MemPlace) (b o : Nat) : Option Value := if MemPlace.cell b o ∈ ps then w.cell? ⟨b, o, none⟩ else none
theorem imOf_ok (w : World) (ps : List MemPlace) : ∀ b o v, imOf w ps b o = some v → w.cell? ⟨b, o, none⟩ = some v := fun b o v h => by
 unfold imOf at h
 split at h
 ·exact h
 ·cases h
end
section
variable {P : Program} {t : TypeId} {r : List AV}
end
section
variable {H : Type} {enc : TypeId × Value → H} {P : Program} {W : World}
theorem arg_string {t : TypeId} {base : Nat} {v : Value} {dd : DataW H} {p : List MemPlace} (ht : P.underlying t = some .string) (hok : Value.okWide P W .any base t v)
  (h : DataW.Trod enc P W 0 (fun _ => true) true t v dd p) : ∃ s : List UInt8, v = .string ⟨⟨s⟩⟩ ∧ s.length ≤ maxLen := by
 obtain ⟨s, rfl⟩ := okWide_string ht hok
 obtain ⟨n, hn⟩ := h
 obtain ⟨s', e, _, hs⟩ := DataW.trod_string ht hn
 have e : s = s' := by simpa [Value.cells] using e
 subst e
 exact ⟨s.data.toList, by simp, by simpa using hs⟩
end
def wideT (P : Program) : Nat → TypeId → Bool
 | 0, _ => false
 | d + 1, t => match P.underlying t with
   | some .bool => true
   | some (.int _) => true
   | some (.float _) => true
   | some .string => true
   | some (.slice e) => Nat.blt 0 (P.cellsOf e) && wideT P d e
   | some (.struct fs) => fs.toList.all fun f => wideT P d f.type
   | some (.array _ e) => wideT P d e
   | _ => false
section
variable {H : Type} {enc : TypeId × Value → H} {P : Program} {w : World} {base : Nat} {held : Bool} {sp : Nat → Bool}
theorem trodStep_sp {d : Nat} {t : TypeId} (hw : wideT P (d + 1) t = true) {r r' : TypeId → List Value → Option (DataW H × List MemPlace)}
  (hr : ∀ t cs x, wideT P d t = true → r t cs = some x → (∀ p ∈ x.2, sp p.block = true) → r' t cs = some x) {cs : List Value} {x : DataW H × List MemPlace}
  (h : DataW.trodStep enc P w base (fun _ => true) held r t cs = some x) (hs : ∀ p ∈ x.2, sp p.block = true) : DataW.trodStep enc P w base sp held r' t cs = some x := by
 unfold DataW.trodStep at h ⊢
 split at h
 case h_1 => exact h
 case h_2 => exact h
 case h_3 => exact h
 case h_4 => exact h
 case h_5 => exact h
 case h_6 e a ht =>
  unfold wideT at hw
  rw [ht] at hw; cases hw
 case h_7 => exact h
 case h_8 e a len cap ht =>
  unfold wideT at hw
  rw [ht] at hw
  simp only [Bool.and_eq_true] at hw
  obtain ⟨hz, hwe⟩ := hw
  have hz : 0 < P.cellsOf e := by simpa [Nat.blt_eq] using hz
  simp only at h ⊢
  split at h
  ·rename_i hc
   rw [if_pos hc]
   simp only [Option.map_eq_some_iff, Option.bind_eq_some_iff] at h ⊢
   obtain ⟨elems, he, rest, hrest, rfl⟩ := h
   have one : ∀ (i : Nat) (y : DataW H × List MemPlace), y ∈ elems ++ rest →
     (w.cells? base (a.add (i * P.cellsOf e)) (P.cellsOf e)).bind (r e) = some y → (w.cells? base (a.add (i * P.cellsOf e)) (P.cellsOf e)).bind (r' e) = some y := by
    intro i y hy hv
    simp only [Option.bind_eq_some_iff] at hv ⊢
    obtain ⟨cs', hc', hy'⟩ := hv
    refine ⟨cs', hc', hr _ _ _ hwe hy' (fun p hp => hs p ?_)⟩
    simp only [List.mem_append, List.mem_flatMap]
    right
    exact ⟨y, by simpa using hy, hp⟩
   refine ⟨elems, mapM_carry he (fun i y hi hy => one i y (by simp [hy])), rest, ?_, rfl⟩
   simp only [if_true] at hrest
   have hrl : rest.length = cap - len := by simpa using mapM_some_length hrest
   have hel : elems.length = len := by simpa using mapM_some_length he
   cases hrl0 : cap - len with
   | zero =>
     rw [hrl0] at hrest hrl
     have : rest = [] := List.eq_nil_of_length_eq_zero hrl
     subst this
     split
     ·rfl
     ·rfl
   | succ m =>
     have hsa : sp a.block = true := by
      refine hs (.cell a.block (a.off + 0)) ?_
      simp only [List.mem_append]
      left
      refine MemPlace.mem_row.2 ⟨0, Nat.mul_pos (by omega) hz, rfl⟩
     rw [if_pos hsa, ← hrl0]
     exact mapM_carry hrest (fun j y hj hy => one (len + j) y (by simp [hy]))
  ·cases h
 case h_9 fs _ _ ht =>
  unfold wideT at hw
  rw [ht] at hw
  simp only [List.all_eq_true] at hw
  split at h
  ·rename_i hc
   rw [if_pos hc]
   simp only [Option.map_eq_some_iff] at h ⊢
   obtain ⟨xs, hx, rfl⟩ := h
   exact ⟨xs, mapM_carry hx (fun f y hf hy hv => hr _ _ _ (hw f hf) hv (fun p hp => hs p (List.mem_flatMap.2 ⟨y, hy, hp⟩))), rfl⟩
  ·cases h
 case h_10 n e _ _ ht =>
  unfold wideT at hw
  rw [ht] at hw
  split at h
  ·rename_i hc
   rw [if_pos hc]
   simp only [Option.map_eq_some_iff] at h ⊢
   obtain ⟨xs, hx, rfl⟩ := h
   exact ⟨xs, mapM_carry hx (fun f y _ hy hv => hr _ _ _ hw hv (fun p hp => hs p (List.mem_flatMap.2 ⟨y, hy, hp⟩))), rfl⟩
  ·cases h
 case h_11 => exact h
 case h_12 ht =>
  unfold wideT at hw
  rw [ht] at hw; cases hw
 case h_13 => exact h
 case h_14 ht =>
  unfold wideT at hw
  rw [ht] at hw; cases hw
 case h_15 => exact h
 case h_16 => exact h
 case h_17 => exact h
 case h_18 => exact h
 case h_19 => exact h
 case h_20 => exact h
 case h_21 => cases h
theorem trod_sp : ∀ (n d : Nat) (t : TypeId) (cs : List Value) (x : DataW H × List MemPlace), wideT P d t = true →
  DataW.trod enc P w base (fun _ => true) held n t cs = some x → (∀ p ∈ x.2, sp p.block = true) → DataW.trod enc P w base sp held n t cs = some x := by
 intro n
 induction n with
 | zero => intro d t cs x _ h; simp [DataW.trod] at h
 | succ n ih =>
   intro d t cs x hw h hs
   cases d with
   | zero => simp [wideT] at hw
   | succ d =>
     rw [DataW.trod_step] at h ⊢
     exact trodStep_sp hw (fun t cs x hw hx hs => ih d t cs x hw hx hs) h hs
theorem sameAt_grown {W W' : World} (h : GrownB W W') {p : MemPlace} (hp : p.block < W.heap.size) : W.sameAt W' p := by
 obtain ⟨⟨_, _, hk⟩, _, hs⟩ := h
 have hb := hk p.block hp
 cases p with
 | cell b off =>
   simp only [MemPlace.block] at hp hb
   show W'.cell? ⟨b, off, none⟩ = W.cell? ⟨b, off, none⟩
   unfold World.cell?
   simp only
   obtain ⟨o1, h1⟩ : ∃ o, W.heap[b]? = some o := ⟨W.heap[b], Array.getElem?_eq_getElem hp⟩
   obtain ⟨o2, h2⟩ : ∃ o, W'.heap[b]? = some o := ⟨W'.heap[b]'(by omega), Array.getElem?_eq_getElem (by omega)⟩
   rw [h1, h2] at hb
   rw [h1, h2]
   cases o1 with
   | cells c t fr =>
     cases o2 with
     | cells c' t' fr' =>
       obtain ⟨_, _, _, hc⟩ := hb
       exact hc off (fun h => h)
     | _ => cases hb
   | map es cl =>
     cases o2 with
     | map es' cl' => rfl
     | _ => cases hb
   | _ =>
     have hb : some o2 = _ := hb
     cases hb; rfl
 | map b =>
   simp only [MemPlace.block] at hp hb
   show W'.heap[b]? = W.heap[b]?
   obtain ⟨o1, h1⟩ : ∃ o, W.heap[b]? = some o := ⟨W.heap[b], Array.getElem?_eq_getElem hp⟩
   obtain ⟨o2, h2⟩ : ∃ o, W'.heap[b]? = some o := ⟨W'.heap[b]'(by omega), Array.getElem?_eq_getElem (by omega)⟩
   rw [h1, h2] at hb
   rw [h1, h2]
   cases o1 with
   | cells c t fr =>
     cases o2 with
     | cells c' t' fr' =>
       obtain ⟨rfl, rfl, _, hc⟩ := hb
       have : c' = c := Array.ext_getElem? fun j => hc j (fun h => h)
       rw [this]
     | _ => cases hb
   | map es cl =>
     cases o2 with
     | map es' cl' =>
       rcases hb with hb | ⟨rfl, rfl⟩
       ·exact hb.elim
       ·rfl
     | _ => cases hb
   | _ =>
     have hb : some o2 = _ := hb
     cases hb; rfl
theorem trodAll_again {d : Nat} {W W' : World} (hg : GrownB W W') : ∀ {ts : List TypeId} {vs : List Value} {ds : List (DataW H)} {ps : List MemPlace}, (ts.all fun t => wideT P d t) = true →
  DataW.TrodAll enc P W 0 (fun _ => true) held ts vs ds ps → (∀ p ∈ ps, p.block < W.heap.size) → (∀ p ∈ ps, sp p.block = true) → DataW.TrodAll enc P W' 0 sp held ts vs ds ps
 | [], [], [], _, _, h, _, _ => h
 | t :: ts, v :: vs, dd :: ds, _, hw, ⟨p, q, ⟨n, h1⟩, h2, rfl⟩, hlt, hsp => by
   simp only [List.all_cons, Bool.and_eq_true] at hw
   refine ⟨p, q, ⟨n, ?_⟩, trodAll_again hg hw.2 h2 (fun x hx => hlt x (by simp [hx])) (fun x hx => hsp x (by simp [hx])), rfl⟩
   exact DataW.trod_carry n t _ _ (trod_sp n d t _ _ hw.1 h1 fun x hx => hsp x (by simp [show x ∈ p from hx])) fun x hx => sameAt_grown hg (hlt x (by simp [show x ∈ p from hx]))
end
variable [Gl]
end Go.Sx
