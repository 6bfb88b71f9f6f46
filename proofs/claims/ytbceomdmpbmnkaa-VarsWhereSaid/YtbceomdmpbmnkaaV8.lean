/-
  The plain law of VarsWhere: where cells stand, and what is in them at first.
-/
import Derived.Test.YtbceomdmpbmnkaaV7
import Derived.KernelRfl
set_option maxRecDepth 100000
set_option linter.unusedVariables false
set_option linter.unusedSimpArgs false
namespace Go.Proofs.Ytbceomdmpbmnkaa.vars
open Go Go.Sx

/-! ### of any variables that may be -/
theorem may_facts {v : GVar} (h : mayVar v = true) : nameOk v.name = true ∧ (cellsOf v.kind).length ≠ 0 ∧ 0 ≤ v.size ∧ v.size ≤ 8 ∧
    (isValue v.kind = false → v.size = 0) ∧ (isValue v.kind = true → mayVal v.first = true) := by
  unfold mayVar at h
  split at h
  · cases h
  rename_i h1
  split at h
  · cases h
  split at h
  · cases h
  split at h
  · cases h
  rename_i h4
  split at h
  · cases h
  rename_i h5
  split at h
  · cases h
  rename_i h6
  have hk : ∀ w k, ofKind w k = true → mayVal w = true := fun w k h => by
    unfold ofKind at h
    simp only [Bool.and_eq_true] at h; exact h.2
  refine ⟨by simpa using h1, fun h => h4 (by rw [h]; rfl), by omega, by omega, fun hv => ?_, fun hv => ?_⟩
  · rw [if_pos hv] at h
    split at h
    · assumption
    · cases h
  · rw [if_neg (by rw [hv]; exact fun h => by cases h)] at h
    split at h
    · split at h
      · exact hk _ _ h
      · cases h
    · split at h
      · exact hk _ _ h
      · cases h
theorem cells_value {k : Int} (h : isValue k = true) : cellsOf k = [k] := by
  unfold isValue at h
  simp only [Bool.and_eq_true, decide_eq_true_eq] at h
  unfold cellsOf
  rw [if_neg (by omega), if_neg (by omega), if_neg (by omega), if_neg (by omega), if_neg (by omega), if_neg (by omega), if_neg (by omega), if_pos]
  unfold isValue
  simp only [Bool.and_eq_true, decide_eq_true_eq]; exact h
theorem cells_block {k : Int} (h : isValue k = false) (h0 : (cellsOf k).length ≠ 0) : 2 ≤ (cellsOf k).length ∧ ∀ c ∈ cellsOf k, c = 1 ∨ c = 2 ∨ c = 4 := by
  unfold cellsOf at h0 ⊢
  repeat' split
  all_goals first
    | (simp; done)
    | (rename_i hk; rw [h] at hk; cases hk)
    | (exfalso; simp_all)
theorem wid_first {v : GVar} (h : mayVar v = true) : wid v = ((firstOf v).length : Int) := by
  obtain ⟨_, h0, h1, h2, h3, h4⟩ := may_facts h
  have hc := cells_le v.kind
  unfold wid firstOf
  cases hv : isValue v.kind with
  | true =>
    rw [if_pos rfl, List.length_replicate, cells_value hv]
    unfold sizeOf1
    have e : (([v.kind].length : Nat) : Int) * max v.size 1 = max v.size 1 := by simp
    rw [e, wrap64 (x := max v.size 1) (by omega) (by omega)]
    omega
  | false =>
    rw [if_neg (fun h => by cases h), List.length_map, h3 hv]
    have e : ((cellsOf v.kind).length : Int) * max 0 1 = ((cellsOf v.kind).length : Int) := by
      rw [show max (0 : Int) 1 = 1 by rfl, Int.mul_one]
    rw [e, wrap64 (x := ((cellsOf v.kind).length : Int)) (by omega) (by omega)]
theorem sumW_tot : ∀ (l : List GVar) (n : Nat), l.all mayVar = true → n + 8 * l.length ≤ 1000000 → sumW l (n : Int) = ((n + (firstF l).length : Nat) : Int)
  | [], n, _, _ => by simp [sumW, firstF]
  | v :: r, n, h, hn => by
    simp only [List.all_cons, Bool.and_eq_true] at h
    have h1 := firstOf_le h.1
    simp only [List.length_cons] at hn
    have e : IntKind.i64.wrap ((n : Int) + wid v) = ((n + (firstOf v).length : Nat) : Int) := by
      rw [wid_first h.1, wrap64 (by omega) (by omega)]; omega
    simp only [sumW, e, firstF, List.length_append]
    rw [sumW_tot r _ h.2 (by omega)]
    congr 1; omega
theorem addrs_at : ∀ (l : List GVar) (n : Int) (i : Nat) (h : i < (addrsF l n).length), (addrsF l n)[i] = sumW (l.take i) n
  | [], n, i, h => by simp [addrsF] at h
  | v :: r, n, 0, h => rfl
  | v :: r, n, i + 1, h => by
    simp only [addrsF, List.getElem_cons_succ, List.take_succ_cons, sumW]
    exact addrs_at r _ i _
theorem firstF_split (l : List GVar) {i : Nat} (h : i < l.length) : firstF l = firstF (l.take i) ++ (firstOf l[i] ++ firstF (l.drop (i + 1))) := by
  have app : ∀ a b : List GVar, firstF (a ++ b) = firstF a ++ firstF b := fun a b => by
    induction a with
    | nil => rfl
    | cons x r ih => simp only [List.cons_append, firstF, ih, List.append_assoc]
  conv => lhs; rw [← List.take_append_drop i l, app, List.drop_eq_getElem_cons h]
  rfl
theorem first_at (l : List GVar) {i k : Nat} (h : i < l.length) (hk : k < (firstOf l[i]).length) : ∃ h' : (firstF (l.take i)).length + k < (firstF l).length, (firstF l)[(firstF (l.take i)).length + k] = (firstOf l[i])[k] := by
  have e := firstF_split l h
  have hl : (firstF (l.take i)).length + k < (firstF l).length := by rw [e]; simp only [List.length_append]; omega
  refine ⟨hl, ?_⟩
  have : (firstF l)[(firstF (l.take i)).length + k]? = some (firstOf l[i])[k] := by
    rw [e, List.getElem?_append_right (by omega), Nat.add_sub_cancel_left, List.getElem?_append_left hk, List.getElem?_eq_getElem hk]
  rw [List.getElem?_eq_getElem hl] at this
  exact Option.some.inj this
/-- what stands in a cell at first -/
theorem firstOf_at {v : GVar} (h : mayVar v = true) (hz : Plain v) {k : Nat} (hk : k < (firstOf v).length) : mayVal (firstOf v)[k] = true ∧ (firstOf v)[k].f = 0 ∧ ((cellsOf v.kind).length = 1 → (firstOf v)[k] = v.first) ∧ ((cellsOf v.kind).length ≠ 1 → (firstOf v)[k].i = 0) := by
  obtain ⟨_, h0, h1, h2, h3, h4⟩ := may_facts h
  cases hv : isValue v.kind with
  | true =>
    have e : (firstOf v)[k] = v.first := by
      have : (firstOf v)[k]? = some v.first := by
        have e1 : firstOf v = List.replicate (sizeOf1 v) v.first := by unfold firstOf; rw [hv]; rfl
        rw [e1] at hk ⊢
        rw [List.length_replicate] at hk
        rw [List.getElem?_replicate, if_pos hk]
      rw [List.getElem?_eq_getElem hk] at this
      exact Option.some.inj this
    rw [e]
    refine ⟨h4 hv, hz.1, fun _ => rfl, fun hne => absurd ?_ hne⟩
    rw [cells_value hv]; rfl
  | false =>
    obtain ⟨b1, b2⟩ := cells_block hv h0
    have e1 : firstOf v = (cellsOf v.kind).map zeroOf := by unfold firstOf; rw [hv]; rfl
    have hk' : k < (cellsOf v.kind).length := by rw [e1, List.length_map] at hk; exact hk
    have e : (firstOf v)[k] = zeroOf (cellsOf v.kind)[k] := by
      have : (firstOf v)[k]? = some (zeroOf (cellsOf v.kind)[k]) := by
        rw [e1, List.getElem?_map, List.getElem?_eq_getElem hk']; rfl
      rw [List.getElem?_eq_getElem hk] at this
      exact Option.some.inj this
    rw [e]
    have hc := b2 _ (List.getElem_mem hk')
    refine ⟨?_, ?_, fun h => absurd h (by omega), fun _ => ?_⟩
    all_goals (rcases hc with hc | hc | hc <;> rw [hc] <;> rfl)
/-- how wide it is, as the law says -/
theorem width_law {v : GVar} (h : mayVar v = true) : (0 < v.size → v.size = ((firstOf v).length : Int)) ∧ (¬ 0 < v.size → ((cellsOf v.kind).length : Int) = ((firstOf v).length : Int)) := by
  obtain ⟨_, h0, h1, h2, h3, h4⟩ := may_facts h
  cases hv : isValue v.kind with
  | true =>
    have e1 : (firstOf v).length = sizeOf1 v := by unfold firstOf; rw [hv, if_pos rfl, List.length_replicate]
    rw [e1, cells_value hv]
    unfold sizeOf1
    constructor
    · intro h; omega
    · intro h; simp; omega
  | false =>
    have e1 : (firstOf v).length = (cellsOf v.kind).length := by unfold firstOf; rw [hv]; simp
    rw [e1]
    have := h3 hv
    exact ⟨fun h => by omega, fun _ => rfl⟩

/-! ### of the program's own, some left out -/
theorem keys_nodup : ∀ (l : List GVar) (ks : List (List UInt8)), (l.map GVar.name).Nodup → (∀ v ∈ l, v.name ∉ ks) → (keysOf l ks).length = ks.length + l.length
  | [], ks, _, _ => by simp [keysOf]
  | v :: r, ks, hn, hk => by
    simp only [List.map_cons, List.nodup_cons] at hn
    have h1 : v.name ∉ ks := hk v (List.mem_cons_self ..)
    have e : addKey ks v.name = ks ++ [v.name] := by unfold addKey; rw [if_neg h1]
    simp only [keysOf, e]
    rw [keys_nodup r _ hn.2 fun u hu hm => by
      rcases List.mem_append.1 hm with hm | hm
      · exact hk u (List.mem_cons_of_mem _ hu) hm
      · simp at hm
        exact hn.1 (List.mem_map.2 ⟨u, hu, hm⟩)]
    simp only [List.length_append, List.length_cons, List.length_nil]; omega
theorem firstF_sub {a b : List GVar} (h : a.Sublist b) : (firstF a).length ≤ (firstF b).length := by
  induction h with
  | slnil => exact Nat.le_refl _
  | cons v _ ih => simp only [firstF, List.length_append]; omega
  | cons_cons v _ ih => simp only [firstF, List.length_append]; omega
theorem may_sub {a b : List GVar} (h : a.Sublist b) (hb : b.all mayVar = true) (hl : b.length ≤ 12) (hc : (firstF b).length ≤ 64) (hn : (b.map GVar.name).Nodup) : mayE a = 0 := by
  have hall : a.all mayVar = true := by
    rw [List.all_eq_true] at hb ⊢
    exact fun v hv => hb v (h.subset hv)
  have hlen := h.length_le
  have hs : sumW a 0 = ((0 + (firstF a).length : Nat) : Int) := sumW_tot a 0 hall (by omega)
  have hfa := firstF_sub h
  have hk := keys_nodup a [] (List.Nodup.sublist (h.map GVar.name) hn) (fun _ _ h => by cases h)
  unfold mayE
  have h1 : ¬ (a.all mayVar = false ∨ 12 < a.length) := fun h => by
    rcases h with h | h
    · rw [hall] at h; cases h
    · omega
  rw [if_neg h1, if_neg (by rw [hs]; omega), if_neg (by rw [hk]; simp)]
end Go.Proofs.Ytbceomdmpbmnkaa.vars
