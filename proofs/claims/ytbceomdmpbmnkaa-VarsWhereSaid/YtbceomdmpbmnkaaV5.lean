/-
  What the functions of vars come to, each by its tree: May.
-/
import Derived.Test.YtbceomdmpbmnkaaV4
import Derived.KernelRfl
set_option maxRecDepth 100000
set_option linter.unusedVariables false
set_option linter.unusedSimpArgs false
namespace Go.Proofs.Ytbceomdmpbmnkaa.vars
open Go Go.Sx
def c12 : VC := ⟨⟨[], []⟩, [(30, [none]), (27, [none])], [(0, [⟨[(3, .slx 0 0 0), (4, .map 0), (10, .slx 1 0 0), (0, .sym 64), (8, .sym 64), (9, .sym 65)], [], 1, 3, [], [(0, 2)]⟩])]⟩
def t12 : VT :=
 (.lt (.len 22) [.sym 64] 65 none
 (.loop 66 0 [.int .i64 0, .int .i64 0, .vsl 0 2 []]
  (.cons 3
  (.lt (.bin .lss 3 false false) [.sym 67, .sym 65] 69 none
  (.ite 69
   (.lt (.iaddr 22) [.sym 64, .sym 67] 70 none
   (.lt (.load 50) [.sym 70] 71 (some 10)
   (.lt (.len 22) [.sym 64] 81 none
   (.lt (.bin .gtr 3 false true) [.sym 81, .int .i64 12] 82 none
   (.ite 82
    (.done (.int .i64 1))
    (.call 30 [.agg [.sym 71, .sym 72, .sym 73, .sym 74, .sym 75, .sym 76, .sym 77, .sym 78, .sym 79, .sym 80]] 83 [none]
    (.lt (.un .not) [.sym 83] 84 none
    (.ite 84
     (.done (.int .i64 1))
     (.call 27 [.agg [.sym 71, .sym 72, .sym 73, .sym 74, .sym 75, .sym 76, .sym 77, .sym 78, .sym 79, .sym 80]] 85 [none]
     (.lt (.bin .add 3 false false) [.sym 66, .sym 85] 86 none
     (.lt (.mput 57) [.sym 68, .sym 71, .bool true] 87 none
     (.lt (.bin .add 3 false true) [.sym 67, .int .i64 1] 88 none
     (.again 0 0 [.sym 86, .sym 88, .sym 87])))))))))))))
   (.lt (.bin .gtr 3 false true) [.sym 66, .int .i64 64] 70 none
   (.ite 70
    (.done (.int .i64 1))
    (.lt .mlen [.sym 68] 71 none
    (.lt (.len 22) [.sym 64] 72 none
    (.lt (.bin .lss 3 false false) [.sym 71, .sym 72] 73 none
    (.ite 73
     (.done (.int .i64 3))
     (.done (.int .i64 0))))))))))
  .nil)))
theorem len22 (l : List GVar) : (XOp.len 22).run Try.prog [vrs l] = some (.int .i64 (l.length : Int)) := run_len_sl Try.underlying22 l
theorem ia22 {l : List GVar} {i : Nat} (h : i < l.length) : (XOp.iaddr 22).run Try.prog [vrs l, .int .i64 (i : Int)] = some (.vptr (encL encVar (l.drop i))) :=
  run_iaddr_sl (ti := (Try.prog.info? 50).get!) Try.underlying22 (by kernel_rfl) (by kernel_rfl) lenVar h .i64
theorem ld50 {l : List GVar} {i : Nat} (h : i < l.length) : (XOp.load 50).run Try.prog [.vptr (encL encVar (l.drop i))] = some (.agg (encVar l[i])) :=
  run_load_agg (ti := (Try.prog.info? 50).get!) Try.underlying50 rfl (by kernel_rfl) (by kernel_rfl) lenVar h
def encK (k : List UInt8) : List AV := [.str k, .bool true]
theorem lenK (k : List UInt8) : (encK k).length = 2 := rfl
theorem okK (k : List UInt8) : okL (encK k) = true := rfl
def addKey (ks : List (List UInt8)) (k : List UInt8) : List (List UInt8) := if k ∈ ks then ks else ks ++ [k]
def keysOf : List GVar → List (List UInt8) → List (List UInt8)
  | [], ks => ks
  | v :: r, ks => keysOf r (addKey ks v.name)
def sumW : List GVar → Int → Int
  | [], n => n
  | v :: r, n => sumW r (IntKind.i64.wrap (n + wid v))
theorem keysOf_snoc (v : GVar) : ∀ (l : List GVar) (ks : List (List UInt8)), keysOf (l ++ [v]) ks = addKey (keysOf l ks) v.name
  | [], _ => rfl
  | a :: r, ks => keysOf_snoc v r _
theorem sumW_snoc (v : GVar) : ∀ (l : List GVar) (n : Int), sumW (l ++ [v]) n = IntKind.i64.wrap (sumW l n + wid v)
  | [], _ => rfl
  | a :: r, n => sumW_snoc v r _
def mapK (ks : List (List UInt8)) : AV := .vsl ks.length 2 (encL encK ks)
theorem mput57 (ks : List (List UInt8)) (k : List UInt8) : (XOp.mput 57).run Try.prog [mapK ks, .str k, .bool true] = some (mapK (addKey ks k)) := by
  have h1 : mputF .string (.str k) (.bool true) (encL encK ks) = some (encL encK (addKey ks k)) := by
    unfold addKey
    induction ks with
    | nil => rfl
    | cons q r ih =>
      show mputF .string (.str k) (.bool true) (.str q :: .bool true :: encL encK r) = _
      unfold mputF
      have e : keyEq .string (.str k) (.str q) = some (k == q) := by show some (eqB k q) = _; rw [eqB_eq]
      simp only [e]
      by_cases hq : k = q
      · subst hq
        simp [encL, encK]
      · have hq' : (k == q) = false := by simpa using hq
        simp only [hq', ih]
        by_cases hm : k ∈ r
        · simp [hm, hq, encL, encK]
        · simp [hm, hq, encL, encK]
  have h2 : (XOp.mput 57).run Try.prog [mapK ks, .str k, .bool true] = mputV .string (mapK ks) (.str k) (.bool true) := by
    show (match Try.prog.underlying 57 with | some (.map kt _) => (match Try.prog.underlying kt with | some d => mputV d (mapK ks) (.str k) (.bool true) | none => none) | _ => none) = _
    rw [Try.underlying57]
    simp only [Try.underlying9]
  rw [h2]
  unfold mputV mapK
  have e1 : keyOk .string (.str k) = true := rfl
  have e2 : (Nat.beq 2 2 && Nat.beq (Nat.mul ks.length 2) (lenA (encL encK ks))) = true := by
    rw [lenA_eq, encL_length lenK]; simp [Nat.beq_eq]
  have e3 : Nat.div (lenA (encL encK (addKey ks k))) 2 = (addKey ks k).length := by
    rw [lenA_eq, encL_length lenK]; show _ * 2 / 2 = _; omega
  simp only [e1, e2, h1, e3]
theorem mlenK (ks : List (List UInt8)) : XOp.mlen.run Try.prog [mapK ks] = some (.int .i64 (ks.length : Int)) := rfl
def mayE (l : List GVar) : Int := if l.all mayVar = false ∨ 12 < l.length then 1 else if 64 < sumW l 0 then 1 else if (keysOf l []).length < l.length then 3 else 0
theorem take_snoc {α : Type} (l : List α) {i : Nat} (h : i < l.length) : l.take (i + 1) = l.take i ++ [l[i]] := List.take_succ_eq_append_getElem h
theorem okMapK (ks : List (List UInt8)) : okC (mapK ks) = true := encL_ok okK ks
theorem wrapS {i n : Nat} (h : i < n) (hn : n ≤ 1000) : IntKind.i64.wrap ((i : Int) + 1) = ((i + 1 : Nat) : Int) := by rw [wrap64 (by omega) (by omega)]; rfl
theorem p12 (l : List GVar) (hl : l.length ≤ 1000) (hz : ∀ v ∈ l, Plain v) : Pure Try.prog 12 [vrs l] (.int .i64 (mayE l)) := by
  refine pure_shape (sh := [none]) (ls := [vrs l]) (c := c12) (n := 300) (t := t12) mo ov rfl (okC1 (okVrs l)) rfl (fun Y _ => known0 _) rfl (by kernel_rfl) fun Y hf hg => ?_
  unfold t12
  refine VOK_lt (len22 l) rfl ?_
  refine VOK_loop (ι := Nat) (fun i => [.int .i64 (sumW (l.take i) 0), .int .i64 i, mapK (keysOf (l.take i) [])]) (fun i => i ≤ l.length ∧ (l.take i).all mayVar = true ∧ (0 < i → l.length ≤ 12)) (fun i => l.length - i) 0 ⟨Nat.zero_le _, rfl, fun h => absurd h (Nat.lt_irrefl _)⟩ rfl
    (fun i _ => by simp only [okL, okC, okMapK]) (fun i j _ _ h => ?_) (fun i hi => ?_)
  · simp at h; have h : i = j := by omega
    rw [h]
  obtain ⟨hi, hall, h12⟩ := hi
  refine VOK_lt (run_lss ..) rfl (VOK_ite rfl (fun hlt => ?_) (fun hlt => ?_))
  · have hlt : i < l.length := by simp only [decide_eq_true_eq] at hlt; omega
    have hv : Plain l[i] := hz _ (List.getElem_mem hlt)
    refine VOK_lt (ia22 hlt) (encL_ok okVar _) (VOK_ltN (ld50 hlt) rfl rfl (VOK_lt (len22 l) rfl (VOK_lt (run_gtr ..) rfl (VOK_ite rfl (fun h => VOK_done ?_) (fun h => ?_)))))
    · show AV.int .i64 1 = _
      have : 12 < l.length := by simp only [decide_eq_true_eq] at h; omega
      simp only [mayE, this, or_true, if_true]
    · have h12' : l.length ≤ 12 := by simp only [decide_eq_false_iff_not] at h; omega
      refine VOK_call (p30 l[i] hv) rfl rfl (VOK_lt (run_not ..) rfl (VOK_ite rfl (fun h => VOK_done ?_) (fun h => ?_)))
      · show AV.int .i64 1 = _
        have hm : l.all mayVar = false := by
          rw [List.all_eq_false]
          exact ⟨l[i], List.getElem_mem hlt, by simpa using h⟩
        simp only [mayE, hm, true_or, if_true]
      · have hm : mayVar l[i] = true := by simpa using h
        refine VOK_call (p27 l[i]) rfl rfl (VOK_lt (run_add ..) rfl (VOK_lt (mput57 ..) (okMapK _) (VOK_lt (run_add ..) rfl (VOK_again rfl ⟨i + 1, ⟨hlt, ?_, fun _ => h12'⟩, ?_, by omega⟩))))
        · rw [take_snoc l hlt, List.all_append, hall]; simp [hm]
        · rw [take_snoc l hlt, sumW_snoc, keysOf_snoc, ← wrapS hlt hl]; rfl
  · have he : i = l.length := by simp only [decide_eq_false_iff_not] at hlt; omega
    have h12' : ¬ 12 < l.length := by
      rcases Nat.eq_zero_or_pos i with h | h
      · omega
      · have := h12 h; omega
    subst he
    rw [List.take_length] at hall
    refine VOK_lt (run_gtr ..) rfl (VOK_ite rfl (fun h => VOK_done ?_) (fun h => VOK_lt (mlenK _) rfl (VOK_lt (len22 l) rfl (VOK_lt (run_lss ..) rfl (VOK_ite rfl (fun h' => VOK_done ?_) (fun h' => VOK_done ?_))))))
    all_goals (simp only [decide_eq_true_eq, decide_eq_false_iff_not, List.take_length] at *)
    all_goals (show AV.int .i64 _ = _; unfold mayE)
    · simp only [hall, h12', h, Bool.true_eq_false, or_self, if_false, if_true]
    · have h' : (keysOf l []).length < l.length := by omega
      simp only [hall, h12', h, h', Bool.true_eq_false, or_self, if_false, if_true]
    · have h' : ¬ (keysOf l []).length < l.length := by omega
      simp only [hall, h12', h, h', Bool.true_eq_false, or_self, if_false, if_true]
end Go.Proofs.Ytbceomdmpbmnkaa.vars
