/-
  What operations give at values of known forms; a call of symbols, by its tree.
-/
import Derived.Test.YtmhcemkembijeaaSyP
set_option linter.unusedVariables false
set_option linter.unusedSimpArgs false
namespace Go.Sx

theorem put_v (Y : Sy) (n : Nat) (a : AV) (i : Nat) : (Y.put n a).v i = if i = n then some a else Y.v i := rfl
theorem puts_nil (Y : Sy) (n : Nat) : Y.puts n [] = Y := rfl
theorem puts_cons (Y : Sy) (n : Nat) (a : AV) (r : List AV) : Y.puts n (a :: r) = (Y.put n a).puts (n + 1) r := rfl
theorem den_sym (s : Nat → Option AV) (i : Nat) : den s (.sym i) = (match s i with | some a => a | none => .opq) := by cases h : s i <;> simp only [den, h]

section
variable (P : Program) (t : TypeId) (cx cy : Bool) (k : IntKind) (a b : Int)
theorem kix_self : Nat.beq (kix k) (kix k) = true := Nat.beq_refl _
theorem run_int {op : BinOp} {r : AV} (h : evInt op k a b = some r) : (XOp.bin op t cx cy).run P [.int k a, .int k b] = some r := by
  show evIntOr P op k a k b = some r
  unfold evIntOr
  rw [kix_self, h]
theorem run_lss : (XOp.bin .lss t cx cy).run P [.int k a, .int k b] = some (.bool (decide (a < b))) := run_int P t cx cy k a b (by show some (AV.bool (ltI a b)) = _; rw [ltI_eq])
theorem run_gtr : (XOp.bin .gtr t cx cy).run P [.int k a, .int k b] = some (.bool (decide (b < a))) := run_int P t cx cy k a b (by show some (AV.bool (ltI b a)) = _; rw [ltI_eq])
theorem run_leq : (XOp.bin .leq t cx cy).run P [.int k a, .int k b] = some (.bool (decide (a ≤ b))) := run_int P t cx cy k a b (by show some (AV.bool (not (ltI b a))) = _; rw [ltI_eq, not_lt_eq])
theorem run_geq : (XOp.bin .geq t cx cy).run P [.int k a, .int k b] = some (.bool (decide (b ≤ a))) := run_int P t cx cy k a b (by show some (AV.bool (not (ltI a b))) = _; rw [ltI_eq, not_lt_eq])
theorem run_eql : (XOp.bin .eql t cx cy).run P [.int k a, .int k b] = some (.bool (decide (a = b))) := run_int P t cx cy k a b (by show some (AV.bool (eqI a b)) = _; rw [eqI_eq]; rfl)
theorem run_neq : (XOp.bin .neq t cx cy).run P [.int k a, .int k b] = some (.bool (!decide (a = b))) := run_int P t cx cy k a b (by show some (AV.bool (not (eqI a b))) = _; rw [eqI_eq]; rfl)
theorem run_add : (XOp.bin .add t cx cy).run P [.int k a, .int k b] = some (.int k (k.wrap (a + b))) := run_int P t cx cy k a b (by show some (mkI k (wrapF k (Int.add a b))) = _; rw [mkI_eq, wrapF_eq]; rfl)
theorem run_sub : (XOp.bin .sub t cx cy).run P [.int k a, .int k b] = some (.int k (k.wrap (a - b))) := run_int P t cx cy k a b (by show some (mkI k (wrapF k (Int.sub a b))) = _; rw [mkI_eq, wrapF_eq]; rfl)
theorem run_mul : (XOp.bin .mul t cx cy).run P [.int k a, .int k b] = some (.int k (k.wrap (a * b))) := run_int P t cx cy k a b (by show some (mkI k (wrapF k (Int.mul a b))) = _; rw [mkI_eq, wrapF_eq]; rfl)
theorem run_not (x : Bool) : (XOp.un .not).run P [.bool x] = some (.bool (!x)) := rfl
variable {P t}
theorem run_len_str (ht : P.underlying t = some .string) (s : List UInt8) : (XOp.len t).run P [.str s] = some (.int .i64 (s.length : Int)) := by
  show evLen P h0 t (.str s) = _
  unfold evLen
  rw [ht]
  simp only [mkI_eq, lenB_eq]
  rfl
theorem run_idx_str (ht : P.underlying t = some .string) (s : List UInt8) (k : IntKind) (n : Nat) (h : n < s.length) : (XOp.idx t).run P [.str s, .int k (n : Int)] = some (.int .u8 (s[n].toNat : Int)) := by
  show evIndexS P t (.str s) (.int k (Int.ofNat n)) = _
  unfold evIndexS
  rw [ht]
  simp only [nthB_eq, List.getElem?_eq_getElem h, mkB, mkI_eq]
  rfl
end
theorem wrap64 {x : Int} (h1 : -9223372036854775808 ≤ x) (h2 : x ≤ 9223372036854775807) : IntKind.i64.wrap x = x := by
  simp [IntKind.wrap, IntKind.bits, IntKind.signed]; omega

variable [Gl]
/-- a call of plain values, by the tree that its function comes to with symbols for them -/
theorem pure_tree {P : Program} (hm : P.follows .mixedOrders = true) (ho : OvOk P) {f : FuncId} {ls : List AV} {v : AV} {c : VC} {n : Nat} {t : VT} (hls : okL ls = true) (hv : noRef v = true) (hk : ∀ Y, Fresh Y 64 → KnownF P c.fc (Y.puts 64 ls))
    (ht : vFn P n c f (symsFrom 64 ls.length) (64 + ls.length) = t) (h : ∀ Y, Fresh Y 64 → Gl.gt Y.v → VOK P (· = v) [] (Y.puts 64 ls) t) : Pure P f ls v :=
  pure_sym (args' := symsFrom 64 ls.length) (okL_okIL hls) hv (symsFrom_ok _ _) hls (fun Y hf => den_syms 64 ls fun i a ha => puts_at ls hf i a ha) fun Y hf hg =>
    vFn_ok (c := c) hm (callN_ok hm ho n) ⟨(hf.puts ls).1, hk Y hf⟩ (by rw [ht]; exact h Y hf hg)
end Go.Sx
