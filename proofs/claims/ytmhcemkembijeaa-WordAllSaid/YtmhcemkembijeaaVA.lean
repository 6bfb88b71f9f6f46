/-
  WordAll: the program's words and the document's are the same.
-/
import Derived.Test.YtmhcemkembijeaaV5
import Derived.KernelRfl
import Derived.Test.YtmhcemkembijeaaSyS
import Derived.Test.YtmhcemkembijeaaSyG
set_option maxRecDepth 100000
set_option linter.unusedVariables false
set_option linter.unusedSimpArgs false
namespace Go.Proofs.Ytmhcemkembijeaa.vars
open Go Go.Sx
theorem remI {t : TypeId} {cx cy : Bool} {k : IntKind} (x c : Int) (hc : c ≠ 0) : (XOp.bin .rem t cx cy).run Try.prog [.int k x, .int k c] = some (.int k (x.tmod c)) := rem_run (P := Try.prog) (k := k) (x := x) (c := c) hc rfl t cx cy
theorem rows_of {α : Type} {enc : α → List AV} {p : List AV → Prop} {q : α → Prop} (h : ∀ r, p r → ∃ a, r = enc a ∧ q a) : ∀ rows : List (List AV), (∀ r, r ∈ rows → p r) → ∃ l : List α, rows.flatten = encL enc l ∧ l.length = rows.length ∧ ∀ a, a ∈ l → q a
  | [], _ => ⟨[], rfl, rfl, fun a h => by cases h⟩
  | r :: rows, hr => by
    obtain ⟨a, rfl, ha⟩ := h r (hr r (List.mem_cons_self ..))
    obtain ⟨l, h1, h2, h3⟩ := rows_of h rows fun r h => hr r (List.mem_cons_of_mem _ h)
    refine ⟨a :: l, by rw [List.flatten_cons, h1]; rfl, by simp [h2], fun b hb => ?_⟩
    rcases List.mem_cons.1 hb with rfl | hb
    · exact ha
    · exact h3 b hb
def encB (c : UInt8) : List AV := [.int .u8 (c.toNat : Int)]
theorem lenB1 (c : UInt8) : (encB c).length = 1 := rfl
theorem okB1 (c : UInt8) : okL (encB c) = true := rfl
theorem fit_u8 {r : List AV} (h : Sx.Fit Try.prog 5 r) : ∃ c : UInt8, r = encB c ∧ True := by
  obtain ⟨n, rfl, hn⟩ := fit_int_inv Try.underlying5 h
  have hn : 0 ≤ n ∧ n ≤ 255 := by simpa [Lit.wf, IntKind.min, IntKind.max, IntKind.bits, IntKind.signed] using hn
  refine ⟨n.toNat.toUInt8, ?_, trivial⟩
  have : ((n.toNat.toUInt8).toNat : Int) = n := by
    have h1 : n.toNat.toUInt8.toNat = n.toNat := by
      simp only [Nat.toUInt8, UInt8.toNat_ofNat']; omega
    rw [h1]; omega
  unfold encB
  rw [this]
/-- bytes that are handed in -/
theorem arg_u8s {H : Type} {enc : TypeId × Value → H} {W : World} {base : Nat} {v : Value} {dd : DataW H} {p ps : List MemPlace} (hok : Value.okWide Try.prog W .any base 22 v)
    (h : DataW.Trod enc Try.prog W 0 (fun _ => true) true 22 v dd p) (hps : ∀ q, q ∈ p → q ∈ ps) : ∃ (l : List UInt8) (a : AV), SlV encB 1 l a ∧ True ∧ l.length ≤ maxLen ∧ Con (envOf (imOf W ps)) a v := by
  rcases arg_slice (d := 5) Try.underlying22 (by kernel_rfl) hok h hps with rfl | ⟨rows, h1, h2, h3, h4⟩
  · exact ⟨[], .nsl, .inr ⟨rfl, rfl⟩, trivial, Nat.zero_le _, by simp only [Con]⟩
  · obtain ⟨l, k1, k2, k3⟩ := rows_of (enc := encB) (q := fun _ => True) (fun r hr => fit_u8 hr) rows h1
    have hc : Try.prog.cellsOf 5 = 1 := by kernel_rfl
    refine ⟨l, vslOf encB 1 l, .inl rfl, trivial, by omega, ?_⟩
    have h4' := h4
    rw [k1, hc, ← k2] at h4'
    exact h4'
def encS (s : List UInt8) : List AV := [.str s]
theorem lenS (s : List UInt8) : (encS s).length = 1 := rfl
theorem okS (s : List UInt8) : okL (encS s) = true := rfl
def piecesL : List (List UInt8) := [[97], [98, 50], [32], [55], [46], [53], [109, 115], [47, 47], [10], [58], [61], [60], [62], [59], [120, 32, 121], [49, 46, 50, 53], [49, 48, 48, 109, 115], [49, 50, 51, 52, 53, 54, 55, 56, 57, 48, 49, 50, 51, 52, 53], [126], [65], [43], [48]]
theorem pieces_len {i : Nat} (h : i < piecesL.length) : (piecesL[i]).length ≤ 15 := by
  have : piecesL.all (fun s => decide (s.length ≤ 15)) = true := by decide
  exact of_decide_eq_true (List.all_eq_true.1 this _ (List.getElem_mem h))
abbrev strs (l : List (List UInt8)) : AV := sliceOf encS 1 l
theorem len24 (l : List (List UInt8)) : (XOp.len 24).run Try.prog [strs l] = some (.int .i64 (l.length : Int)) := run_len_sl Try.underlying24 l
theorem ia24 {l : List (List UInt8)} {i : Nat} (h : i < l.length) : (XOp.iaddr 24).run Try.prog [strs l, .int .i64 (i : Int)] = some (.vptr (encL encS (l.drop i))) :=
  run_iaddr_sl (ti := (Try.prog.info? 9).get!) Try.underlying24 (by kernel_rfl) (by kernel_rfl) lenS h .i64
theorem ld9 {l : List (List UInt8)} {i : Nat} (h : i < l.length) : (XOp.load 9).run Try.prog [.vptr (encL encS (l.drop i))] = some (.str l[i]) := by
  rw [List.drop_eq_getElem_cons h]
  exact run_load_one Try.underlying9 rfl _ _
theorem okVs (l : List (List UInt8)) : okC (.vptr (encL encS l)) = true := encL_ok okS l
theorem okStrs (l : List (List UInt8)) : okC (strs l) = true := sliceOf_ok okS l
def c3 : VC := ⟨⟨[], []⟩, [(6, [none]), (7, [none, none, none]), (8, [none, none, none]), (9, [none])], [(0, [⟨[(7, .slx 0 0 0), (5, .slx 1 0 0), (1, .sym 65), (6, .slx 2 0 0), (0, .sym 64)], [], 0, 3, [], []⟩]), (2, [⟨[(9, .slx 0 0 0), (8, .slx 1 0 0)], [], 0, 2, [], []⟩])]⟩
def t3 : VT :=
 (.call 6 [] 66 [none]
 (.lt (.un .not) [.sym 66] 67 none
 (.ite 67
  (.done (.bool false))
  (.lt (.len 9) [.sym 64] 68 none
  (.lt (.bin .gtr 3 false true) [.sym 68, .int .i64 100] 69 none
  (.ite 69
   (.done (.bool true))
   (.lt (.len 22) [.sym 65] 70 none
   (.lt (.bin .gtr 3 false true) [.sym 70, .int .i64 60] 71 none
   (.ite 71
    (.done (.bool true))
    (.loop 72 0 [.int .i64 0, strs piecesL, .str []]
     (.cons 3
     (.lt (.len 22) [.sym 65] 75 none
     (.lt (.bin .lss 3 false false) [.sym 72, .sym 75] 76 none
     (.ite 76
      (.lt (.iaddr 22) [.sym 65, .sym 72] 77 none
      (.lt (.load 5) [.sym 77] 78 none
      (.lt (.conv 5 3) [.sym 78] 79 none
      (.lt (.len 24) [.sym 73] 80 none
      (.lt (.bin .rem 3 false false) [.sym 79, .sym 80] 81 none
      (.lt (.iaddr 24) [.sym 73, .sym 81] 82 none
      (.lt (.load 9) [.sym 82] 83 none
      (.lt (.bin .add 9 false false) [.sym 74, .sym 83] 84 none
      (.lt (.bin .add 3 false true) [.sym 72, .int .i64 1] 85 none
      (.again 0 0 [.sym 85, .sym 73, .sym 84]))))))))))
      (.loop 77 0 [.int .i64 0, .vsl 2 1 [.sym 64, .sym 74]]
       (.cons 2
       (.lt (.bin .lss 3 false true) [.sym 77, .int .i64 2] 79 none
       (.ite 79
        (.lt (.iaddr 24) [.sym 78, .sym 77] 80 none
        (.lt (.load 9) [.sym 80] 81 none
        (.call 7 [.sym 81] 82 [none, none, none]
        (.lt (.iaddr 24) [.sym 78, .sym 77] 85 none
        (.lt (.load 9) [.sym 85] 86 none
        (.call 8 [.sym 86] 87 [none, none, none]
        (.lt (.bin .neq 4 false false) [.sym 84, .sym 89] 90 none
        (.ite 90
         (.done (.bool false))
         (.lt (.bin .neq 3 false false) [.sym 83, .sym 88] 91 none
         (.ite 91
          (.done (.bool false))
          (.call 9 [.sym 82, .sym 87] 92 [none]
          (.lt (.un .not) [.sym 92] 93 none
          (.ite 93
           (.done (.bool false))
           (.lt (.bin .add 3 false true) [.sym 77, .int .i64 1] 94 none
           (.again 1 0 [.sym 94, .sym 78])))))))))))))))
        (.done (.bool true))))
       .nil)))))
     .nil)))))))))))
theorem okWr (r : List GWord × Nat × Bool) : okL [wds r.1, .int .i64 (r.2.1 : Int), .bool r.2.2] = true := by
  show (match okC (wds r.1) with | true => okL [.int .i64 (r.2.1 : Int), .bool r.2.2] | false => false) = true
  rw [okWds]; rfl
theorem words_len (s : List UInt8) : (wordsS s).1.length ≤ 300 := by
  have key : ∀ f p l, l.length ≤ 300 → (wordsR f s p l).1.length ≤ 300 := by
    intro f
    induction f with
    | zero => intro p l _; simp [wordsR]
    | succ f ih =>
      intro p l hl
      simp only [wordsR]
      split
      · exact hl
      · split
        · simp
        · split
          · simp
          · exact ih _ _ (by rw [List.length_append]; simp; omega)
  unfold wordsS
  split
  · simp
  · exact key _ _ _ (by simp)
theorem run_nbs (b : Bool) : (XOp.bin .neq 4 false false).run Try.prog [.bool b, .bool b] = some (.bool false) := by
  cases b <;> kernel_rfl
theorem p3 (s : List UInt8) (l : List UInt8) (x : AV) (sl : SlV encB 1 l x) : Pure Try.prog 3 [.str s, x] (.bool true) := by
  have hx := sl.ok okB1
  refine pure_shape (sh := [none, none]) (ls := [.str s, x]) (c := c3) (n := 300) (t := t3) mo ov (by rcases sl with rfl | ⟨_, rfl⟩ <;> rfl) (by show (match okC x with | true => true | false => false) = true; rw [hx]) rfl (fun Y _ => known0 _) rfl (by kernel_rfl) fun Y hf hg => ?_
  unfold t3
  refine VOK_call p6 rfl rfl (VOK_lt (run_not ..) rfl (VOK_ite rfl (fun h => by cases h) (fun _ => ?_)))
  refine VOK_lt (run_len_str str9 s) rfl (VOK_lt (run_gtr ..) rfl (VOK_ite rfl (fun _ => VOK_done rfl) (fun hs => ?_)))
  refine VOK_lt (sl.len Try.underlying22) rfl (VOK_lt (run_gtr ..) rfl (VOK_ite rfl (fun _ => VOK_done rfl) (fun hl => ?_)))
  have hs : s.length ≤ 100 := by simp only [decide_eq_false_iff_not] at hs; omega
  have hl : l.length ≤ 60 := by simp only [decide_eq_false_iff_not] at hl; omega
  refine VOK_loop (ι := Nat × List UInt8) (fun y => [.int .i64 (y.1 : Int), strs piecesL, .str y.2]) (fun y => y.1 ≤ l.length ∧ y.2.length ≤ 15 * y.1) (fun y => l.length - y.1) (0, []) ⟨Nat.zero_le _, Nat.zero_le _⟩ rfl (fun _ _ => rfl) (fun x y _ _ h => ?_) (fun y hy => ?_)
  · simp at h; have h : x.1 = y.1 := by omega
    rw [h]
  obtain ⟨i, t⟩ := y
  obtain ⟨hi, ht⟩ := hy
  simp only at hi ht ⊢
  refine VOK_lt (sl.len Try.underlying22) rfl (VOK_lt (run_lss ..) rfl (VOK_ite rfl (fun hlt => ?_) (fun hlt => ?_)))
  · have hlt : i < l.length := by simp only [decide_eq_true_eq] at hlt; omega
    have hia := sl.ia (P := Try.prog) (ti := (Try.prog.info? 5).get!) Try.underlying22 (by kernel_rfl) (by kernel_rfl) lenB1 hlt .i64
    rw [List.drop_eq_getElem_cons hlt] at hia
    refine VOK_lt hia (encL_ok okB1 (l[i] :: l.drop (i + 1))) (VOK_lt (run_load_one Try.underlying5 rfl _ _) rfl (VOK_lt (run_conv_ii Try.underlying5 Try.underlying3 _) rfl (VOK_lt (len24 piecesL) rfl (VOK_lt (remI _ _ (by decide)) rfl ?_))))
    have hc : l[i].toNat < 256 := l[i].toNat_lt
    have hm : l[i].toNat % 22 < piecesL.length := Nat.mod_lt _ (by decide)
    have e : (IntKind.i64.wrap (l[i].toNat : Int)).tmod ((piecesL.length : Nat) : Int) = ((l[i].toNat % 22 : Nat) : Int) := by
      rw [wrap64 (x := (l[i].toNat : Int)) (by omega) (by omega), Int.tmod_eq_emod_of_nonneg (by omega)]; rfl
    rw [e]
    have hpl := pieces_len hm
    refine VOK_lt (ia24 hm) (okVs _) (VOK_lt (ld9 hm) rfl (VOK_lt (run_cat _ _ _ _ (by omega)) rfl (VOK_lt (run_add ..) rfl (VOK_again rfl ⟨(i + 1, t ++ piecesL[l[i].toNat % 22]), ⟨hlt, ?_⟩, ?_, by simp only; omega⟩))))
    · simp only [List.length_append]; omega
    · exact congrArg (fun x => [AV.int .i64 x, _, _]) (inc64 (by omega))
  · refine VOK_loop (ι := Nat) (fun k => [.int .i64 (k : Int), strs [s, t]]) (fun k => k ≤ 2) (fun k => 2 - k) 0 (Nat.zero_le _) rfl (fun _ _ => rfl) (fun i j _ _ h => ?_) (fun k hk => ?_)
    · simp at h; have h : i = j := by omega
      rw [h]
    refine VOK_lt (run_lss ..) rfl (VOK_ite rfl (fun hlt => ?_) (fun _ => VOK_done rfl))
    have hk2 : k < [s, t].length := by simp only [decide_eq_true_eq] at hlt; simp; omega
    have hlen : ([s, t][k]).length < 9223372036854775000 := by
      rcases (by simp at hk2; omega : k = 0 ∨ k = 1) with rfl | rfl
      · show s.length < _; omega
      · show t.length < _; omega
    refine VOK_lt (ia24 hk2) (okVs _) (VOK_lt (ld9 hk2) rfl ?_)
    have hwl := words_len [s, t][k]
    refine VOK_call (p7 _ hlen) rfl (okWr _) (VOK_lt (ia24 hk2) (okVs _) (VOK_lt (ld9 hk2) rfl ?_))
    refine VOK_call (p8 _ hlen) rfl (okWr _) (VOK_lt (run_nbs _) rfl (VOK_ite rfl (fun h => by cases h) (fun _ => VOK_lt (run_neq ..) rfl (VOK_ite rfl (fun h => ?_) (fun _ => ?_)))))
    · simp at h
    refine VOK_call (p9 _ (by omega)) rfl rfl (VOK_lt (run_not ..) rfl (VOK_ite rfl (fun h => by cases h) (fun _ => VOK_lt (run_add ..) rfl (VOK_again rfl ⟨k + 1, by simp at hk2; omega, ?_, ?_⟩))))
    · exact congrArg (fun x => [AV.int .i64 x, _]) (inc64 (by omega))
    · simp at hk2; omega
end Go.Proofs.Ytmhcemkembijeaa.vars
