/-
  WordAll: the program's words and the document's are the same.
-/
import Derived.Test.YtmhcemkembijeaaV5
import Derived.KernelRfl
import Derived.Test.YtmhcemkembijeaaSyS
import Derived.Test.YtmhcemkembijeaaSyG
set_option maxRecDepth 100000
set_option linter.unusedVariables false
set_option linter.unusedSimpArgs false
namespace Go.Proofs.Ytmhcemkembijeaa.vars
open Go Go.Sx
theorem remI {t : TypeId} {cx cy : Bool} {k : IntKind} (x c : Int) (hc : c ≠ 0) : (XOp.bin .rem t cx cy).run Try.prog [.int k x, .int k c] = some (.int k (x.tmod c)) := rem_run (P := Try.prog) (k := k) (x := x) (c := c) hc rfl t cx cy
theorem rows_of {α : Type} {enc : α → List AV} {p : List AV → Prop} {q : α → Prop} (h : ∀ r, p r → ∃ a, r = enc a ∧ q a) : ∀ rows : List (List AV), (∀ r, r ∈ rows → p r) → ∃ l : List α, rows.flatten = encL enc l ∧ l.length = rows.length ∧ ∀ a, a ∈ l → q a
  | [], _ => ⟨[], rfl, rfl, fun a h => by cases h⟩
  | r :: rows, hr => by
    obtain ⟨a, rfl, ha⟩ := h r (hr r (List.mem_cons_self ..))
    obtain ⟨l, h1, h2, h3⟩ := rows_of h rows fun r h => hr r (List.mem_cons_of_mem _ h)
    refine ⟨a :: l, by rw [List.flatten_cons, h1]; rfl, by simp [h2], fun b hb => ?_⟩
    rcases List.mem_cons.1 hb with rfl | hb
    · exact ha
    · exact h3 b hb
def encB (c : UInt8) : List AV := [.int .u8 (c.toNat : Int)]
theorem lenB1 (c : UInt8) : (encB c).length = 1 := rfl
theorem okB1 (c : UInt8) : okL (encB c) = true := rfl
theorem fit_u8 {r : List AV} (h : Sx.Fit Try.prog 5 r) : ∃ c : UInt8, r = encB c ∧ True := by
  obtain ⟨n, rfl, hn⟩ := fit_int_inv Try.underlying5 h
  have hn : 0 ≤ n ∧ n ≤ 255 := by simpa [Lit.wf, IntKind.min, IntKind.max, IntKind.bits, IntKind.signed] using hn
  refine ⟨n.toNat.toUInt8, ?_, trivial⟩
  have : ((n.toNat.toUInt8).toNat : Int) = n := by
    have h1 : n.toNat.toUInt8.toNat = n.toNat := by
      simp only [Nat.toUInt8, UInt8.toNat_ofNat']; omega
    rw [h1]; omega
  unfold encB
  rw [this]
/-- bytes that are handed in -/
theorem arg_u8s {H : Type} {enc : TypeId × Value → H} {W : World} {base : Nat} {v : Value} {dd : DataW H} {p ps : List MemPlace} (hok : Value.okWide Try.prog W .any base 22 v)
    (h : DataW.Trod enc Try.prog W 0 (fun _ => true) true 22 v dd p) (hps : ∀ q, q ∈ p → q ∈ ps) : ∃ (l : List UInt8) (a : AV), SlV encB 1 l a ∧ True ∧ l.length ≤ maxLen ∧ Con (envOf (imOf W ps)) a v := by
  rcases arg_slice (d := 5) Try.underlying22 (by kernel_rfl) hok h hps with rfl | ⟨rows, h1, h2, h3, h4⟩
  · exact ⟨[], .nsl, .inr ⟨rfl, rfl⟩, trivial, Nat.zero_le _, by simp only [Con]⟩
  · obtain ⟨l, k1, k2, k3⟩ := rows_of (enc := encB) (q := fun _ => True) (fun r hr => fit_u8 hr) rows h1
    have hc : Try.prog.cellsOf 5 = 1 := by kernel_rfl
    refine ⟨l, vslOf encB 1 l, .inl rfl, trivial, by omega, ?_⟩
    have h4' := h4
    rw [k1, hc, ← k2] at h4'
    exact h4'
def encS (s : List UInt8) : List AV := [.str s]
theorem lenS (s : List UInt8) : (encS s).length = 1 := rfl
theorem okS (s : List UInt8) : okL (encS s) = true := rfl
def piecesL : List (List UInt8) := [[97], [98, 50], [32], [55], [46], [53], [109, 115], [47, 47], [10], [58], [61], [60], [62], [59], [120, 32, 121], [49, 46, 50, 53], [49, 48, 48, 109, 115], [49, 50, 51, 52, 53, 54, 55, 56, 57, 48, 49, 50, 51, 52, 53], [126], [65], [43], [48]]
theorem pieces_len {i : Nat} (h : i < piecesL.length) : (piecesL[i]).length ≤ 15 := by
  have : piecesL.all (fun s => decide (s.length ≤ 15)) = true := by decide
  exact of_decide_eq_true (List.all_eq_true.1 this _ (List.getElem_mem h))
abbrev strs (l : List (List UInt8)) : AV := sliceOf encS 1 l
theorem len24 (l : List (List UInt8)) : (XOp.len 24).run Try.prog [strs l] = some (.int .i64 (l.length : Int)) := run_len_sl Try.underlying24 l
theorem ia24 {l : List (List UInt8)} {i : Nat} (h : i < l.length) : (XOp.iaddr 24).run Try.prog [strs l, .int .i64 (i : Int)] = some (.vptr (encL encS (l.drop i))) :=
  run_iaddr_sl (ti := (Try.prog.info? 9).get!) Try.underlying24 (by kernel_rfl) (by kernel_rfl) lenS h .i64
theorem ld9 {l : List (List UInt8)} {i : Nat} (h : i < l.length) : (XOp.load 9).run Try.prog [.vptr (encL encS (l.drop i))] = some (.str l[i]) := by
  rw [List.drop_eq_getElem_cons h]
  exact run_load_one Try.underlying9 rfl _ _
theorem okVs (l : List (List UInt8)) : okC (.vptr (encL encS l)) = true := encL_ok okS l
theorem okStrs (l : List (List UInt8)) : okC (strs l) = true := sliceOf_ok okS l
def c3 : VC := ⟨⟨[], []⟩, [(6, [none]), (7, [none, none, none]), (8, [none, none, none]), (9, [none])], [(0, [⟨[(7, .slx 0 0 0), (5, .slx 1 0 0), (1, .sym 65), (6, .slx 2 0 0), (0, .sym 64)], [], 0, 3, [], []⟩]), (2, [⟨[(9, .slx 0 0 0), (8, .slx 1 0 0)], [], 0, 2, [], []⟩])]⟩
def t3 : VT :=
 (.call 6 [] 66 [none]
 (.lt (.un .not) [.sym 66] 67 none
 (.ite 67
  (.done (.bool false))
  (.lt (.len 9) [.sym 64] 68 none
  (.lt (.bin .gtr 3 false true) [.sym 68, .int .i64 100] 69 none
  (.ite 69
   (.done (.bool true))
   (.lt (.len 22) [.sym 65] 70 none
   (.lt (.bin .gtr 3 false true) [.sym 70, .int .i64 60] 71 none
   (.ite 71
    (.done (.bool true))
    (.loop 72 0 [.int .i64 0, strs piecesL, .str []]
     (.cons 3
     (.lt (.len 22) [.sym 65] 75 none
     (.lt (.bin .lss 3 false false) [.sym 72, .sym 75] 76 none
     (.ite 76
      (.lt (.iaddr 22) [.sym 65, .sym 72] 77 none
      (.lt (.load 5) [.sym 77] 78 none
      (.lt (.conv 5 3) [.sym 78] 79 none
      (.lt (.len 24) [.sym 73] 80 none
      (.lt (.bin .rem 3 false false) [.sym 79, .sym 80] 81 none
      (.lt (.iaddr 24) [.sym 73, .sym 81] 82 none
      (.lt (.load 9) [.sym 82] 83 none
      (.lt (.bin .add 9 false false) [.sym 74, .sym 83] 84 none
      (.lt (.bin .add 3 false true) [.sym 72, .int .i64 1] 85 none
      (.again 0 0 [.sym 85, .sym 73, .sym 84]))))))))))
      (.loop 77 0 [.int .i64 0, .vsl 2 1 [.sym 64, .sym 74]]
       (.cons 2
       (.lt (.bin .lss 3 false true) [.sym 77, .int .i64 2] 79 none
       (.ite 79
        (.lt (.iaddr 24) [.sym 78, .sym 77] 80 none
        (.lt (.load 9) [.sym 80] 81 none
        (.call 7 [.sym 81] 82 [none, none, none]
        (.lt (.iaddr 24) [.sym 78, .sym 77] 85 none
        (.lt (.load 9) [.sym 85] 86 none
        (.call 8 [.sym 86] 87 [none, none, none]
        (.lt (.bin .neq 4 false false) [.sym 84, .sym 89] 90 none
        (.ite 90
         (.done (.bool false))
         (.lt (.bin .neq 3 false false) [.sym 83, .sym 88] 91 none
         (.ite 91
          (.done (.bool false))
          (.call 9 [.sym 82, .sym 87] 92 [none]
          (.lt (.un .not) [.sym 92] 93 none
          (.ite 93
           (.done (.bool false))
           (.lt (.bin .add 3 false true) [.sym 77, .int .i64 1] 94 none
           (.again 1 0 [.sym 94, .sym 78])))))))))))))))
        (.done (.bool true))))
       .nil)))))
     .nil)))))))))))
theorem okWr (r : List GWord × Nat × Bool) : okL [wds r.1, .int .i64 (r.2.1 : Int), .bool r.2.2] = true := by
  show (match okC (wds r.1) with | true => okL [.int .i64 (r.2.1 : Int), .bool r.2.2] | false => false) = true
  rw [okWds]; rfl
theorem words_len (s : List UInt8) : (wordsS s).1.length ≤ 300 := by
  have key : ∀ f p l, l.length ≤ 300 → (wordsR f s p l).1.length ≤ 300 := by
    intro f
    induction f with
    | zero => intro p l _; simp [wordsR]
    | succ f ih =>
      intro p l hl
      simp only [wordsR]
      split
      · exact hl
      · split
        · simp
        · split
          · simp
          · exact ih _ _ (by rw [List.length_append]; simp; omega)
  unfold wordsS
  split
  · simp
  · exact key _ _ _ (by simp)
theorem run_nbs (b : Bool) : (XOp.bin .neq 4 false false).run Try.prog [.bool b, .bool b] = some (.bool false) := by
  cases b <;> kernel_rfl
theorem p3 (s : List UInt8) (l : List UInt8) (x : AV) (sl : SlV encB 1 l x) : Pure Try.prog 3 [.str s, x] (.bool true) := by
  have hx := sl.ok okB1
  refine pure_shape (sh := [none, none]) (ls := [.str s, x]) (c := c3) (n := 300) (t := t3) mo ov (by rcases sl with rfl | ⟨_, rfl⟩ <;> rfl) (by show (match okC x with | true => true | false => false) = true; rw [hx]) rfl (fun Y _ => known0 _) rfl (by kernel_rfl) fun Y hf hg => ?_
  unfold t3
  refine VOK_call p6 rfl rfl (VOK_lt (run_not ..) rfl (VOK_ite rfl (fun h => by cases h) (fun _ => ?_)))
  refine VOK_lt (run_len_str str9 s) rfl (VOK_lt (run_gtr ..) rfl (VOK_ite rfl (fun _ => VOK_done rfl) (fun hs => ?_)))
  refine VOK_lt (sl.len Try.underlying22) rfl (VOK_lt (run_gtr ..) rfl (VOK_ite rfl (fun _ => VOK_done rfl) (fun hl => ?_)))
  have hs : s.length ≤ 100 := by simp only [decide_eq_false_iff_not] at hs; omega
  have hl : l.length ≤ 60 := by simp only [decide_eq_false_iff_not] at hl; omega
  refine VOK_loop (ι := Nat × List UInt8) (fun y => [.int .i64 (y.1 : Int), strs piecesL, .str y.2]) (fun y => y.1 ≤ l.length ∧ y.2.length ≤ 15 * y.1) (fun y => l.length - y.1) (0, []) ⟨Nat.zero_le _, Nat.zero_le _⟩ rfl (fun _ _ => rfl) (fun x y _ _ h => ?_) (fun y hy => ?_)
  · simp at h; have h : x.1 = y.1 := by omega
    rw [h]
  obtain ⟨i, t⟩ := y
  obtain ⟨hi, ht⟩ := hy
  simp only at hi ht ⊢
  refine VOK_lt (sl.len Try.underlying22) rfl (VOK_lt (run_lss ..) rfl (VOK_ite rfl (fun hlt => ?_) (fun hlt => ?_)))
  · have hlt : i < l.length := by simp only [decide_eq_true_eq] at hlt; omega
    have hia := sl.ia (P := Try.prog) (ti := (Try.prog.info? 5).get!) Try.underlying22 (by kernel_rfl) (by kernel_rfl) lenB1 hlt .i64
    rw [List.drop_eq_getElem_cons hlt] at hia
    refine VOK_lt hia (encL_ok okB1 (l[i] :: l.drop (i + 1))) (VOK_lt (run_load_one Try.underlying5 rfl _ _) rfl (VOK_lt (run_conv_ii Try.underlying5 Try.underlying3 _) rfl (VOK_lt (len24 piecesL) rfl (VOK_lt (remI _ _ (by decide)) rfl ?_))))
    have hc : l[i].toNat < 256 := l[i].toNat_lt
    have hm : l[i].toNat % 22 < piecesL.length := Nat.mod_lt _ (by decide)
    have e : (IntKind.i64.wrap (l[i].toNat : Int)).tmod ((piecesL.length : Nat) : Int) = ((l[i].toNat % 22 : Nat) : Int) := by
      rw [wrap64 (x := (l[i].toNat : Int)) (by omega) (by omega), Int.tmod_eq_emod_of_nonneg (by omega)]; rfl
    rw [e]
    have hpl := pieces_len hm
    refine VOK_lt (ia24 hm) (okVs _) (VOK_lt (ld9 hm) rfl (VOK_lt (run_cat _ _ _ _ (by omega)) rfl (VOK_lt (run_add ..) rfl (VOK_again rfl ⟨(i + 1, t ++ piecesL[l[i].toNat % 22]), ⟨hlt, ?_⟩, ?_, by simp only; omega⟩))))
    · simp only [List.length_append]; omega
    · exact congrArg (fun x => [AV.int .i64 x, _, _]) (inc64 (by omega))
  · refine VOK_loop (ι := Nat) (fun k => [.int .i64 (k : Int), strs [s, t]]) (fun k => k ≤ 2) (fun k => 2 - k) 0 (Nat.zero_le _) rfl (fun _ _ => rfl) (fun i j _ _ h => ?_) (fun k hk => ?_)
    · simp at h; have h : i = j := by omega
      rw [h]
    refine VOK_lt (run_lss ..) rfl (VOK_ite rfl (fun hlt => ?_) (fun _ => VOK_done rfl))
    have hk2 : k < [s, t].length := by simp only [decide_eq_true_eq] at hlt; simp; omega
    have hlen : ([s, t][k]).length < 9223372036854775000 := by
      rcases (by simp at hk2; omega : k = 0 ∨ k = 1) with rfl | rfl
      · show s.length < _; omega
      · show t.length < _; omega
    refine VOK_lt (ia24 hk2) (okVs _) (VOK_lt (ld9 hk2) rfl ?_)
    have hwl := words_len [s, t][k]
    refine VOK_call (p7 _ hlen) rfl (okWr _) (VOK_lt (ia24 hk2) (okVs _) (VOK_lt (ld9 hk2) rfl ?_))
    refine VOK_call (p8 _ hlen) rfl (okWr _) (VOK_lt (run_nbs _) rfl (VOK_ite rfl (fun h => by cases h) (fun _ => VOK_lt (run_neq ..) rfl (VOK_ite rfl (fun h => ?_) (fun _ => ?_)))))
    · simp at h
    refine VOK_call (p9 _ (by omega)) rfl rfl (VOK_lt (run_not ..) rfl (VOK_ite rfl (fun h => by cases h) (fun _ => VOK_lt (run_add ..) rfl (VOK_again rfl ⟨k + 1, by simp at hk2; omega, ?_, ?_⟩))))
    · exact congrArg (fun x => [AV.int .i64 x, _]) (inc64 (by omega))
    · simp at hk2; omega
end Go.Proofs.Ytmhcemkembijeaa.vars
/-
  WordBack: words written one by one are read (the plain law).
-/
set_option maxRecDepth 100000
set_option linter.unusedVariables false
set_option linter.unusedSimpArgs false
namespace Go.Proofs.Ytmhcemkembijeaa.vars
open Go Go.Sx
def dA (n : Nat) : Nat := n / 4 % 9
def dB (n : Nat) : Nat := n / 40 % 10
def dg (n : Nat) : List UInt8 := [UInt8.ofNat (49 + dA n), UInt8.ofNat (48 + dB n)]
def nm (n : Nat) : Nat := (dA n + 1) * 10 + dB n
def half : Nat := 4602678819172646912
/-- n and a half, as a real -/
def halfF (n : Nat) : Nat := (FloatKind.f64.format.add (FloatKind.f64.nearest (n : Int)) half).getD 0
theorem half_all : ((List.range 90).all fun k => FloatKind.f64.format.add (FloatKind.f64.nearest ((k + 10 : Nat) : Int)) half == some (quoF ((k + 10) * 10 + 5) 1)) = true := by kernel_rfl
theorem nm_rng (n : Nat) : 10 ≤ nm n ∧ nm n < 100 := by
  unfold nm dA dB
  have := Nat.mod_lt (n / 4) (show 0 < 9 by decide)
  have := Nat.mod_lt (n / 40) (show 0 < 10 by decide)
  omega
theorem half_add (n : Nat) : FloatKind.f64.format.add (FloatKind.f64.nearest ((nm n : Nat) : Int)) half = some (quoF (nm n * 10 + 5) 1) := by
  obtain ⟨h1, h2⟩ := nm_rng n
  have := eq_of_beq (List.all_eq_true.1 half_all (nm n - 10) (List.mem_range.2 (by omega)))
  rwa [show nm n - 10 + 10 = nm n by omega] at this
/-- what is written of a number, and the word that it is -/
def piece (n : Nat) : List UInt8 := match n % 4 with
  | 0 => 110 :: dg n
  | 1 => dg n
  | 2 => dg n ++ [109, 115]
  | _ => dg n ++ [46, 53]
def wordOf (n : Nat) (p : Int) : GWord := match n % 4 with
  | 0 => ⟨1, 110 :: dg n, 0, 0, p⟩
  | 1 => ⟨2, [], nm n, 0, p⟩
  | 2 => ⟨4, [], nm n, 0, p⟩
  | _ => ⟨3, [], 0, quoF (nm n * 10 + 5) 1, p⟩
def textT : List Nat → List UInt8
  | [] => []
  | n :: r => piece n ++ 32 :: textT r
def wantT : Nat → List Nat → List GWord
  | _, [] => []
  | p, n :: r => wordOf n (p : Int) :: wantT (p + ((piece n).length + 1)) r
theorem textT_snoc (n : Nat) : ∀ l, textT (l ++ [n]) = textT l ++ (piece n ++ [32])
  | [] => by simp [textT]
  | a :: r => by simp [textT, textT_snoc n r]
theorem wantT_snoc (n : Nat) : ∀ (l : List Nat) (p : Nat), wantT p (l ++ [n]) = wantT p l ++ [wordOf n ((p + (textT l).length : Nat) : Int)]
  | [], p => by simp [wantT, textT]
  | a :: r, p => by
    simp only [List.cons_append, wantT, wantT_snoc n r, textT, List.length_append, List.length_cons]
    congr 3
    congr 2
    omega
theorem wantT_len : ∀ (l : List Nat) (p : Nat), (wantT p l).length = l.length
  | [], _ => rfl
  | a :: r, p => by simp [wantT, wantT_len r]
theorem piece_len (n : Nat) : 2 ≤ (piece n).length ∧ (piece n).length ≤ 4 := by
  unfold piece dg
  split <;> simp
theorem textT_len : ∀ l : List Nat, (textT l).length ≤ 5 * l.length
  | [] => Nat.le_refl _
  | a :: r => by
    have := textT_len r
    have := piece_len a
    simp only [textT, List.length_append, List.length_cons]
    omega
/-! digits -/
theorem dig_toNat {k : Nat} (h : k < 256) : (UInt8.ofNat k).toNat = k := by
  simp only [UInt8.toNat_ofNat']; omega
theorem dig_isD {k : Nat} (h1 : 48 ≤ k) (h2 : k ≤ 57) : isD (UInt8.ofNat k) = true := by
  rw [isD_iff, dig_toNat (by omega)]; omega
theorem dig_isL {k : Nat} (h1 : 48 ≤ k) (h2 : k ≤ 57) : isL (UInt8.ofNat k) = false := by
  rw [← Bool.not_eq_true, isL_iff, dig_toNat (by omega)]; omega
theorem dig_a (n : Nat) : 48 ≤ 49 + dA n ∧ 49 + dA n ≤ 57 := by
  unfold dA
  have := Nat.mod_lt (n / 4) (show 0 < 9 by decide)
  omega
theorem dig_b (n : Nat) : 48 ≤ 48 + dB n ∧ 48 + dB n ≤ 57 := by
  unfold dB
  have := Nat.mod_lt (n / 40) (show 0 < 10 by decide)
  omega
theorem val_dg (n : Nat) : val (dg n) = nm n := by
  have ha := dig_a n
  have hb := dig_b n
  unfold val dg nm
  simp only [List.foldl_cons, List.foldl_nil]
  rw [dig_toNat (by omega), dig_toNat (by omega)]
  omega
theorem val_dg5 (n : Nat) : val (dg n ++ [53]) = nm n * 10 + 5 := by
  rw [val_snoc, val_dg]; rfl
theorem span_dg (n : Nat) (c : UInt8) (r : List UInt8) (hc : isD c = false) : span isD (dg n ++ c :: r) = 2 := by
  unfold span dg
  simp only [List.cons_append, List.nil_append]
  rw [List.takeWhile_cons, dig_isD (dig_a n).1 (dig_a n).2]
  simp only [reduceIte]
  rw [List.takeWhile_cons, dig_isD (dig_b n).1 (dig_b n).2]
  simp only [reduceIte]
  rw [List.takeWhile_cons, hc]
  rfl
theorem drop_dg (n : Nat) (r : List UInt8) : (dg n ++ r).drop 2 = r := rfl
theorem take_dg (n : Nat) (r : List UInt8) : (dg n ++ r).take 2 = dg n := rfl
theorem oneS_dg (n : Nat) (r : List UInt8) : oneS (dg n ++ r) = numS (dg n ++ r) := by
  show oneS (UInt8.ofNat (49 + dA n) :: UInt8.ofNat (48 + dB n) :: r) = _
  simp only [oneS, dig_isL (dig_a n).1 (dig_a n).2, dig_isD (dig_a n).1 (dig_a n).2, Bool.false_eq_true, reduceIte]
  rfl
theorem one_piece (n : Nat) (r : List UInt8) : oneS (piece n ++ 32 :: r) = some (wordOf n 0, (piece n).length) := by
  unfold piece wordOf
  rcases (by omega : n % 4 = 0 ∨ n % 4 = 1 ∨ n % 4 = 2 ∨ n % 4 = 3) with h | h | h | h <;> rw [h] <;> simp only
  · have hsp : span isLD (110 :: dg n ++ 32 :: r) = 3 := by
      unfold span dg
      simp only [List.cons_append, List.nil_append]
      have e1 : isLD (UInt8.ofNat (49 + dA n)) = true := by unfold isLD; rw [dig_isD (dig_a n).1 (dig_a n).2]; simp
      have e2 : isLD (UInt8.ofNat (48 + dB n)) = true := by unfold isLD; rw [dig_isD (dig_b n).1 (dig_b n).2]; simp
      rw [List.takeWhile_cons, show isLD 110 = true from rfl]
      simp only [reduceIte]
      rw [List.takeWhile_cons, e1]
      simp only [reduceIte]
      rw [List.takeWhile_cons, e2]
      simp only [reduceIte]
      rw [List.takeWhile_cons, show isLD 32 = false from rfl]
      rfl
    show oneS (110 :: (dg n ++ 32 :: r)) = _
    unfold oneS
    simp only [show isL 110 = true from rfl, reduceIte]
    have hsp' : span isLD (110 :: (dg n ++ 32 :: r)) = 3 := hsp
    rw [hsp']
    rfl
  · rw [oneS_dg]
    have hs := span_dg n 32 r rfl
    unfold numS msS
    rw [hs, drop_dg, take_dg, val_dg, show behind (32 :: r) = 0 from rfl]
    have : isMs (32 :: r) = false := by cases r <;> rfl
    rw [this]
    rfl
  · rw [List.append_assoc, oneS_dg]
    have hs := span_dg n 109 (115 :: 32 :: r) rfl
    show numS (dg n ++ 109 :: 115 :: 32 :: r) = _
    unfold numS msS
    rw [hs, drop_dg, take_dg, val_dg]
    rfl
  · rw [List.append_assoc, oneS_dg]
    have hs := span_dg n 46 (53 :: 32 :: r) rfl
    show numS (dg n ++ 46 :: 53 :: 32 :: r) = _
    unfold numS realS
    have hb : behind (46 :: 53 :: 32 :: r) = 1 := rfl
    rw [hs, drop_dg, take_dg, hb]
    have e : (dg n ++ 46 :: 53 :: 32 :: r).drop (2 + 1) = 53 :: 32 :: r := rfl
    rw [e]
    show some (GWord.mk 3 [] 0 (quoF (val (dg n ++ [53])) 1) 0, 4) = _
    rw [val_dg5]
    rfl
theorem bl_piece (n : Nat) (r : List UInt8) : bl false (piece n ++ r) = 0 := by
  have key : ∀ (c : UInt8) (t : List UInt8), 49 ≤ c.toNat → bl false (c :: t) = 0 := fun c t h => by
    have e1 : isB c = false := by
      unfold isB
      simp only [Bool.or_eq_false_iff, decide_eq_false_iff_not]
      refine ⟨?_, ?_, ?_⟩ <;> (rintro rfl; exact absurd h (by decide))
    have e2 : ¬ (c = 47 ∧ t.head? = some 47) := by
      rintro ⟨rfl, _⟩; exact absurd h (by decide)
    simp only [bl, e1, Bool.false_eq_true, reduceIte, if_neg e2]
  have hd : 49 ≤ (UInt8.ofNat (49 + dA n)).toNat := by
    have := dig_a n
    rw [dig_toNat (by omega)]; omega
  unfold piece
  split
  · exact key 110 _ (by decide)
  · exact key _ _ hd
  · exact key _ _ hd
  · exact key _ _ hd
theorem wordOf_place (n : Nat) (p : Int) : { wordOf n 0 with place := p } = wordOf n p := by
  unfold wordOf
  split <;> rfl
theorem back_from (s : List UInt8) : ∀ (l : List Nat) (f p : Nat) (acc : List GWord), s.drop p = textT l → p ≤ s.length → s.length < p + f → acc.length + l.length ≤ 300 → wordsR f s p acc = (acc ++ wantT p l, 0, true)
  | [], f, p, acc, hd, hp, hf, hl => by
    obtain ⟨f, rfl⟩ : ∃ f', f = f' + 1 := ⟨f - 1, by omega⟩
    have hlen : (s.drop p).length = 0 := by rw [hd]; rfl
    rw [List.length_drop] at hlen
    simp only [wordsR]
    rw [if_pos (by omega)]
    simp [wantT]
  | n :: r, f, p, acc, hd, hp, hf, hl => by
    obtain ⟨f, rfl⟩ : ∃ f', f = f' + 1 := ⟨f - 1, by omega⟩
    have hd : s.drop p = piece n ++ 32 :: textT r := hd
    have hlen : (s.drop p).length = (piece n).length + ((textT r).length + 1) := by rw [hd]; simp
    rw [List.length_drop] at hlen
    have hz : bl false (s.drop p) = 0 := by rw [hd]; exact bl_piece n _
    have hpl := piece_len n
    have hl : acc.length + (r.length + 1) ≤ 300 := hl
    simp only [wordsR]
    rw [hz, Nat.add_zero, if_neg (by omega), hd, one_piece]
    simp only
    rw [if_neg (by omega), wordOf_place]
    have hd2 : s.drop (p + (piece n).length) = 32 :: textT r := by
      rw [← List.drop_drop, hd, List.drop_left]
    have hd3 : s.drop (p + ((piece n).length + 1)) = textT r := by
      rw [← Nat.add_assoc, ← List.drop_drop, hd2]; rfl
    rw [wordsR_skip f s (p + (piece n).length) (p + ((piece n).length + 1)) _ (by
      rw [hd2, hd3]
      simp only [bl, show isB 32 = true from rfl, reduceIte]; omega)]
    rw [back_from s r f _ _ hd3 (by omega) (by omega) (by rw [List.length_append]; simp; omega)]
    simp [wantT]
theorem back_all (l : List Nat) (hl : l.length ≤ 40) : wordsS (textT l) = (wantT 0 l, 0, true) := by
  have hlen := textT_len l
  unfold wordsS
  rw [if_neg (by omega), back_from (textT l) l _ 0 [] rfl (Nat.zero_le _) (by omega) (by simp; omega)]
  rfl
end Go.Proofs.Ytmhcemkembijeaa.vars
/-
  WordBack answers true.
-/
set_option maxRecDepth 100000
set_option linter.unusedVariables false
set_option linter.unusedSimpArgs false
namespace Go.Proofs.Ytmhcemkembijeaa.vars
open Go Go.Sx
theorem quo_run {t : TypeId} {cx cy : Bool} {k : IntKind} (x c : Int) (hc : c ≠ 0) : (XOp.bin .quo t cx cy).run Try.prog [.int k x, .int k c] = some (.int k (k.wrap (x.tdiv c))) := by
  show evIntOr Try.prog .quo k x k c = _
  have hb : Nat.beq (kix k) (kix k) = true := Nat.beq_refl _
  unfold evIntOr
  rw [hb]
  show (match (none : Option AV) with | some r => some r | none => evInt2 Try.prog .quo k x k c) = _
  simp only
  unfold evInt2
  simp only [binOp, Op.intDiv, hc, ne_eq, not_true_eq_false, if_false]
  rfl
theorem wrap16 {n : Nat} (h : n < 65536) : IntKind.u16.wrap (n : Int) = (n : Int) := by
  simp [IntKind.wrap, IntKind.bits, IntKind.signed]; omega
theorem u16_quo (n c : Nat) (hc : c ≠ 0) (hn : n < 65536) (cx cy : Bool) : (XOp.bin .quo 34 cx cy).run Try.prog [.int .u16 (n : Int), .int .u16 (c : Int)] = some (.int .u16 ((n / c : Nat) : Int)) := by
  rw [quo_run _ _ (by omega), Int.tdiv_eq_ediv_of_nonneg (by omega)]
  have : ((n : Int) / (c : Int)) = ((n / c : Nat) : Int) := rfl
  rw [this, wrap16 (Nat.lt_of_le_of_lt (Nat.div_le_self _ _) hn)]
theorem u16_rem (n c : Nat) (hc : c ≠ 0) (cx cy : Bool) : (XOp.bin .rem 34 cx cy).run Try.prog [.int .u16 (n : Int), .int .u16 (c : Int)] = some (.int .u16 ((n % c : Nat) : Int)) := by
  rw [remI _ _ (by omega), Int.tmod_eq_emod_of_nonneg (by omega)]; rfl
theorem u16_add (n m : Nat) (h : n + m < 65536) (cx cy : Bool) : (XOp.bin .add 34 cx cy).run Try.prog [.int .u16 (n : Int), .int .u16 (m : Int)] = some (.int .u16 ((n + m : Nat) : Int)) := by
  rw [run_add]
  have : ((n : Int) + (m : Int)) = ((n + m : Nat) : Int) := rfl
  rw [this, wrap16 h]
theorem u16_u8 (n : Nat) (h : n < 256) : (XOp.conv 34 5).run Try.prog [.int .u16 (n : Int)] = some (.int .u8 (n : Int)) := by
  rw [run_conv_ii Try.underlying34 Try.underlying5]
  have : IntKind.u8.wrap (n : Int) = (n : Int) := by simp [IntKind.wrap, IntKind.bits, IntKind.signed]; omega
  rw [this]
theorem u16_i64 (n : Nat) (h : n < 65536) : (XOp.conv 34 2).run Try.prog [.int .u16 (n : Int)] = some (.int .i64 (n : Int)) := by
  rw [run_conv_ii Try.underlying34 Try.underlying2, wrap64 (by omega) (by omega)]
theorem cv_bytes (a b : Nat) : (XOp.conv 22 9).run Try.prog [.vsl 2 1 [.int .u8 (a : Int), .int .u8 (b : Int)]] = some (.str [UInt8.ofNat a, UInt8.ofNat b]) := by kernel_rfl
def encH (n : Nat) : List AV := [.int .u16 (n : Int)]
theorem lenH1 (n : Nat) : (encH n).length = 1 := rfl
theorem okH1 (n : Nat) : okL (encH n) = true := rfl
theorem fit_u16 {r : List AV} (h : Sx.Fit Try.prog 34 r) : ∃ c : Nat, r = encH c ∧ c < 65536 := by
  obtain ⟨n, rfl, hn⟩ := fit_int_inv Try.underlying34 h
  have hn : 0 ≤ n ∧ n ≤ 65535 := by simpa [Lit.wf, IntKind.min, IntKind.max, IntKind.bits, IntKind.signed] using hn
  refine ⟨n.toNat, ?_, by omega⟩
  unfold encH
  rw [Int.toNat_of_nonneg hn.1]
theorem arg_u16s {H : Type} {enc : TypeId × Value → H} {W : World} {base : Nat} {v : Value} {dd : DataW H} {p ps : List MemPlace} (hok : Value.okWide Try.prog W .any base 30 v)
    (h : DataW.Trod enc Try.prog W 0 (fun _ => true) true 30 v dd p) (hps : ∀ q, q ∈ p → q ∈ ps) : ∃ (l : List Nat) (a : AV), SlV encH 1 l a ∧ (∀ v ∈ l, v < 65536) ∧ l.length ≤ maxLen ∧ Con (envOf (imOf W ps)) a v := by
  rcases arg_slice (d := 5) Try.underlying30 (by kernel_rfl) hok h hps with rfl | ⟨rows, h1, h2, h3, h4⟩
  · exact ⟨[], .nsl, .inr ⟨rfl, rfl⟩, fun v h => (by cases h), Nat.zero_le _, by simp only [Con]⟩
  · obtain ⟨l, k1, k2, k3⟩ := rows_of (enc := encH) (q := fun n => n < 65536) (fun r hr => fit_u16 hr) rows h1
    have hc : Try.prog.cellsOf 34 = 1 := by kernel_rfl
    refine ⟨l, vslOf encH 1 l, .inl rfl, k3, by omega, ?_⟩
    have h4' := h4
    rw [k1, hc, ← k2] at h4'
    exact h4'
def c4 : VC := ⟨⟨[], []⟩, [(6, [none]), (7, [none, none, none]), (9, [none])], [(0, [⟨[(5, .slx 0 0 0), (3, .slx 1 0 0), (4, .slx 0 5 2), (0, .sym 64)], [], 1, 3, [⟨0, 5, 2, 4, none⟩], []⟩])]⟩
def t4 : VT :=
 (.call 6 [] 65 [none]
 (.lt (.un .not) [.sym 65] 66 none
 (.ite 66
  (.done (.bool false))
  (.lt (.len 30) [.sym 64] 67 none
  (.lt (.bin .gtr 3 false true) [.sym 67, .int .i64 40] 68 none
  (.ite 68
   (.done (.bool true))
   (.loop 69 0 [.int .i64 0, .str [], .nsl]
    (.cons 3
    (.lt (.len 30) [.sym 64] 72 none
    (.lt (.bin .lss 3 false false) [.sym 69, .sym 72] 73 none
    (.ite 73
     (.lt (.len 9) [.sym 70] 74 none
     (.lt (.iaddr 30) [.sym 64, .sym 69] 75 none
     (.lt (.load 34) [.sym 75] 76 none
     (.lt (.bin .quo 34 false true) [.sym 76, .int .u16 4] 77 none
     (.lt (.bin .rem 34 false true) [.sym 77, .int .u16 9] 78 none
     (.lt (.bin .add 34 true false) [.int .u16 49, .sym 78] 79 none
     (.lt (.conv 34 5) [.sym 79] 80 none
     (.lt (.iaddr 30) [.sym 64, .sym 69] 81 none
     (.lt (.load 34) [.sym 81] 82 none
     (.lt (.bin .quo 34 false true) [.sym 82, .int .u16 40] 83 none
     (.lt (.bin .rem 34 false true) [.sym 83, .int .u16 10] 84 none
     (.lt (.bin .add 34 true false) [.int .u16 48, .sym 84] 85 none
     (.lt (.conv 34 5) [.sym 85] 86 none
     (.lt (.conv 22 9) [.vsl 2 1 [.sym 80, .sym 86]] 87 none
     (.lt (.iaddr 30) [.sym 64, .sym 69] 88 none
     (.lt (.load 34) [.sym 88] 89 none
     (.lt (.bin .quo 34 false true) [.sym 89, .int .u16 4] 90 none
     (.lt (.bin .rem 34 false true) [.sym 90, .int .u16 9] 91 none
     (.lt (.bin .add 34 false true) [.sym 91, .int .u16 1] 92 none
     (.lt (.conv 34 2) [.sym 92] 93 none
     (.lt (.bin .mul 2 false true) [.sym 93, .int .i64 10] 94 none
     (.lt (.iaddr 30) [.sym 64, .sym 69] 95 none
     (.lt (.load 34) [.sym 95] 96 none
     (.lt (.bin .quo 34 false true) [.sym 96, .int .u16 40] 97 none
     (.lt (.bin .rem 34 false true) [.sym 97, .int .u16 10] 98 none
     (.lt (.conv 34 2) [.sym 98] 99 none
     (.lt (.bin .add 2 false false) [.sym 94, .sym 99] 100 none
     (.lt (.iaddr 30) [.sym 64, .sym 69] 101 none
     (.lt (.load 34) [.sym 101] 102 none
     (.lt (.bin .rem 34 false true) [.sym 102, .int .u16 4] 103 none
     (.lt (.bin .eql 34 false true) [.sym 103, .int .u16 0] 104 none
     (.ite 104
      (.lt (.bin .add 9 true false) [.str [110], .sym 87] 105 none
      (.lt (.app 5 48) [.sym 71, .agg [.int .i64 1, .sym 105, .int .i64 0, .flt .f64 0, .sym 74]] 106 none
      (.lt (.bin .add 9 false false) [.sym 70, .sym 105] 107 none
      (.lt (.bin .add 9 false true) [.sym 107, .str [32]] 108 none
      (.lt (.bin .add 3 false true) [.sym 69, .int .i64 1] 109 none
      (.again 0 0 [.sym 109, .sym 108, .sym 106]))))))
      (.lt (.bin .eql 34 false true) [.sym 103, .int .u16 1] 105 none
      (.ite 105
       (.lt (.app 5 48) [.sym 71, .agg [.int .i64 2, .str [], .sym 100, .flt .f64 0, .sym 74]] 106 none
       (.lt (.bin .add 9 false false) [.sym 70, .sym 87] 107 none
       (.lt (.bin .add 9 false true) [.sym 107, .str [32]] 108 none
       (.lt (.bin .add 3 false true) [.sym 69, .int .i64 1] 109 none
       (.again 0 0 [.sym 109, .sym 108, .sym 106])))))
       (.lt (.bin .eql 34 false true) [.sym 103, .int .u16 2] 106 none
       (.ite 106
        (.lt (.bin .add 9 false true) [.sym 87, .str [109, 115]] 107 none
        (.lt (.app 5 48) [.sym 71, .agg [.int .i64 4, .str [], .sym 100, .flt .f64 0, .sym 74]] 108 none
        (.lt (.bin .add 9 false false) [.sym 70, .sym 107] 109 none
        (.lt (.bin .add 9 false true) [.sym 109, .str [32]] 110 none
        (.lt (.bin .add 3 false true) [.sym 69, .int .i64 1] 111 none
        (.again 0 0 [.sym 111, .sym 110, .sym 108]))))))
        (.lt (.bin .add 9 false true) [.sym 87, .str [46, 53]] 107 none
        (.lt (.conv 2 31) [.sym 100] 108 none
        (.lt (.bin .add 31 false true) [.sym 108, .flt .f64 4602678819172646912] 109 none
        (.lt (.app 5 48) [.sym 71, .agg [.int .i64 3, .str [], .int .i64 0, .sym 109, .sym 74]] 110 none
        (.lt (.bin .add 9 false false) [.sym 70, .sym 107] 111 none
        (.lt (.bin .add 9 false true) [.sym 111, .str [32]] 112 none
        (.lt (.bin .add 3 false true) [.sym 69, .int .i64 1] 113 none
        (.again 0 0 [.sym 113, .sym 112, .sym 110]))))))))))))))))))))))))))))))))))))))))))))
     (.call 7 [.sym 70] 74 [none, none, none]
     (.ite 76
      (.lt (.bin .eql 3 false true) [.sym 75, .int .i64 0] 77 none
      (.ite 77
       (.call 9 [.sym 74, .sym 71] 78 [none]
       (.done (.sym 78)))
       (.done (.bool false))))
      (.done (.bool false)))))))
    .nil))))))))
theorem run_half (n : Nat) : (XOp.bin .add 31 false true).run Try.prog [.flt .f64 (FloatKind.f64.nearest ((nm n : Nat) : Int)), .flt .f64 half] = some (.flt .f64 (quoF (nm n * 10 + 5) 1)) := by
  rw [run_flt]
  show some (mkF .f64 (FloatKind.f64.format.add _ half)) = _
  rw [half_add]; rfl
theorem okSW (s : List UInt8) (k : Int) (l : List GWord) : okL [.int .i64 k, .str s, wds l] = true := by
  show (match okC (wds l) with | true => true | false => false) = true
  rw [okWds]
theorem p4 (l : List Nat) (x : AV) (sl : SlV encH 1 l x) (hn : ∀ v ∈ l, v < 65536) : Pure Try.prog 4 [x] (.bool true) := by
  have hx := sl.ok okH1
  refine pure_shape (sh := [none]) (ls := [x]) (c := c4) (n := 300) (t := t4) mo ov (by rcases sl with rfl | ⟨_, rfl⟩ <;> rfl) (okC1 hx) rfl (fun Y _ => known0 _) rfl (by kernel_rfl) fun Y hf hg => ?_
  unfold t4
  refine VOK_call p6 rfl rfl (VOK_lt (run_not ..) rfl (VOK_ite rfl (fun h => by cases h) (fun _ => ?_)))
  refine VOK_lt (sl.len Try.underlying30) rfl (VOK_lt (run_gtr ..) rfl (VOK_ite rfl (fun _ => VOK_done rfl) (fun hl => ?_)))
  have hl : l.length ≤ 40 := by simp only [decide_eq_false_iff_not] at hl; omega
  refine VOK_loop (ι := Nat) (fun i => [.int .i64 (i : Int), .str (textT (l.take i)), wds (wantT 0 (l.take i))]) (fun i => i ≤ l.length) (fun i => l.length - i) 0 (Nat.zero_le _) rfl (fun _ _ => okSW _ _ _) (fun x y _ _ h => ?_) (fun i hi => ?_)
  · simp at h; have h : x = y := by omega
    rw [h]
  refine VOK_lt (sl.len Try.underlying30) rfl (VOK_lt (run_lss ..) rfl (VOK_ite rfl (fun hlt => ?_) (fun hlt => ?_)))
  · have hlt : i < l.length := by simp only [decide_eq_true_eq] at hlt; omega
    have hia := sl.ia (P := Try.prog) (ti := (Try.prog.info? 34).get!) Try.underlying30 (by kernel_rfl) (by kernel_rfl) lenH1 hlt .i64
    rw [List.drop_eq_getElem_cons hlt] at hia
    have hok := encL_ok okH1 (l[i] :: l.drop (i + 1))
    have hld : (XOp.load 34).run Try.prog [.vptr (encL encH (l[i] :: l.drop (i + 1)))] = some (.int .u16 (l[i] : Int)) := run_load_one Try.underlying34 rfl _ _
    have hb := hn _ (List.getElem_mem hlt)
    have htk : l.take (i + 1) = l.take i ++ [l[i]] := List.take_succ_eq_append_getElem hlt
    have htl := textT_len (l.take i)
    rw [List.length_take] at htl
    have hpl := piece_len l[i]
    have ht1 : textT (l.take (i + 1)) = textT (l.take i) ++ piece l[i] ++ [32] := by rw [htk, textT_snoc, List.append_assoc]
    have hw1 : wantT 0 (l.take (i + 1)) = wantT 0 (l.take i) ++ [wordOf l[i] ((textT (l.take i)).length : Int)] := by rw [htk, wantT_snoc, Nat.zero_add]
    have hwl : (wantT 0 (l.take i)).length ≤ 40 := by rw [wantT_len, List.length_take]; omega
    have ha := dig_a l[i]
    have hb2 := dig_b l[i]
    have hnm := nm_rng l[i]
    generalize l[i] = n at *
    refine VOK_lt (run_len_str str9 _) rfl (VOK_lt hia hok (VOK_lt hld rfl (VOK_lt (u16_quo n 4 (by decide) hb ..) rfl (VOK_lt (u16_rem (n / 4) 9 (by decide) ..) rfl (VOK_lt (u16_add 49 (dA n) (by omega) ..) rfl (VOK_lt (u16_u8 (49 + dA n) (by omega)) rfl ?_))))))
    refine VOK_lt hia hok (VOK_lt hld rfl (VOK_lt (u16_quo n 40 (by decide) hb ..) rfl (VOK_lt (u16_rem (n / 40) 10 (by decide) ..) rfl (VOK_lt (u16_add 48 (dB n) (by omega) ..) rfl (VOK_lt (u16_u8 (48 + dB n) (by omega)) rfl (VOK_lt (cv_bytes (49 + dA n) (48 + dB n)) rfl ?_))))))
    refine VOK_lt hia hok (VOK_lt hld rfl (VOK_lt (u16_quo n 4 (by decide) hb ..) rfl (VOK_lt (u16_rem (n / 4) 9 (by decide) ..) rfl (VOK_lt (u16_add (dA n) 1 (by omega) ..) rfl (VOK_lt (u16_i64 (dA n + 1) (by omega)) rfl (VOK_lt (run_mul ..) rfl ?_))))))
    refine VOK_lt hia hok (VOK_lt hld rfl (VOK_lt (u16_quo n 40 (by decide) hb ..) rfl (VOK_lt (u16_rem (n / 40) 10 (by decide) ..) rfl (VOK_lt (u16_i64 (dB n) (by omega)) rfl (VOK_lt (run_add ..) rfl ?_)))))
    have hnum : IntKind.i64.wrap (IntKind.i64.wrap (((dA n + 1 : Nat) : Int) * 10) + (dB n : Int)) = ((nm n : Nat) : Int) := by
      rw [wrap64 (x := ((dA n + 1 : Nat) : Int) * 10) (by omega) (by omega), wrap64 (by omega) (by omega)]
      unfold nm; omega
    rw [hnum]
    refine VOK_lt hia hok (VOK_lt hld rfl (VOK_lt (u16_rem n 4 (by decide) ..) rfl ?_))
    refine VOK_lt (run_eql ..) rfl (VOK_ite rfl (fun h0 => ?_) (fun h0 => VOK_lt (run_eql ..) rfl (VOK_ite rfl (fun h1 => ?_) (fun h1 => VOK_lt (run_eql ..) rfl (VOK_ite rfl (fun h2 => ?_) (fun h2 => ?_))))))
    · have h0 : n % 4 = 0 := by have := of_decide_eq_true h0; omega
      have hp : piece n = 110 :: dg n := by unfold piece; rw [h0]; try rfl
      have hw : ∀ p, wordOf n p = ⟨1, 110 :: dg n, 0, 0, p⟩ := fun p => by unfold wordOf; rw [h0]; try rfl
      rw [hw] at hw1
      rw [hp] at ht1 hpl
      have hdl : (110 :: dg n).length ≤ 4 := hpl.2
      refine VOK_lt (run_cat _ _ [110] (dg n) (by show 1 + 2 < _; decide)) rfl (VOK_lt (run_app_sl (enc := encW) lenW (by decide) (by decide) _ ⟨1, 110 :: dg n, 0, 0, ((textT (l.take i)).length : Int)⟩ (by omega)) (okWds _) (VOK_lt (run_cat _ _ _ (110 :: dg n) (by omega)) rfl (VOK_lt (run_cat _ _ _ [32] (by rw [List.length_append]; simp only [List.length_cons, List.length_nil]; simp only [List.length_cons] at hdl; omega)) rfl (VOK_lt (run_add ..) rfl (VOK_again rfl ⟨i + 1, hlt, ?_, by omega⟩)))))
      rw [ht1, hw1]
      exact congrArg (fun x => [AV.int .i64 x, _, _]) (inc64 (by omega))
    · have h1 : n % 4 = 1 := by have := of_decide_eq_true h1; omega
      have hp : piece n = dg n := by unfold piece; rw [h1]; try rfl
      have hw : ∀ p, wordOf n p = ⟨2, [], nm n, 0, p⟩ := fun p => by unfold wordOf; rw [h1]; try rfl
      rw [hw] at hw1
      rw [hp] at ht1 hpl
      refine VOK_lt (run_app_sl (enc := encW) lenW (by decide) (by decide) _ ⟨2, [], nm n, 0, ((textT (l.take i)).length : Int)⟩ (by omega)) (okWds _) (VOK_lt (run_cat _ _ _ (dg n) (by omega)) rfl (VOK_lt (run_cat _ _ _ [32] (by rw [List.length_append]; simp only [List.length_cons, List.length_nil]; omega)) rfl (VOK_lt (run_add ..) rfl (VOK_again rfl ⟨i + 1, hlt, ?_, by omega⟩))))
      rw [ht1, hw1]
      exact congrArg (fun x => [AV.int .i64 x, _, _]) (inc64 (by omega))
    · have h2 : n % 4 = 2 := by have := of_decide_eq_true h2; omega
      have hp : piece n = dg n ++ [109, 115] := by unfold piece; rw [h2]; try rfl
      have hw : ∀ p, wordOf n p = ⟨4, [], nm n, 0, p⟩ := fun p => by unfold wordOf; rw [h2]; try rfl
      rw [hw] at hw1
      rw [hp] at ht1 hpl
      refine VOK_lt (run_cat _ _ (dg n) [109, 115] (by show 2 + 2 < _; decide)) rfl (VOK_lt (run_app_sl (enc := encW) lenW (by decide) (by decide) _ ⟨4, [], nm n, 0, ((textT (l.take i)).length : Int)⟩ (by omega)) (okWds _) (VOK_lt (run_cat _ _ _ (dg n ++ [109, 115]) (by omega)) rfl (VOK_lt (run_cat _ _ _ [32] (by rw [List.length_append]; simp only [List.length_cons, List.length_nil]; omega)) rfl (VOK_lt (run_add ..) rfl (VOK_again rfl ⟨i + 1, hlt, ?_, by omega⟩)))))
      rw [ht1, hw1]
      exact congrArg (fun x => [AV.int .i64 x, _, _]) (inc64 (by omega))
    · have h3 : n % 4 = 3 := by
        have := of_decide_eq_false h0
        have := of_decide_eq_false h1
        have := of_decide_eq_false h2
        omega
      have hp : piece n = dg n ++ [46, 53] := by unfold piece; rw [h3]; try rfl
      have hw : ∀ p, wordOf n p = ⟨3, [], 0, quoF (nm n * 10 + 5) 1, p⟩ := fun p => by unfold wordOf; rw [h3]; try rfl
      rw [hw] at hw1
      rw [hp] at ht1 hpl
      refine VOK_lt (run_cat _ _ (dg n) [46, 53] (by show 2 + 2 < _; decide)) rfl (VOK_lt (run_conv_if Try.underlying2 Try.underlying31 _) rfl (VOK_lt (run_half n) rfl (VOK_lt (run_app_sl (enc := encW) lenW (by decide) (by decide) _ ⟨3, [], 0, quoF (nm n * 10 + 5) 1, ((textT (l.take i)).length : Int)⟩ (by omega)) (okWds _) (VOK_lt (run_cat _ _ _ (dg n ++ [46, 53]) (by omega)) rfl (VOK_lt (run_cat _ _ _ [32] (by rw [List.length_append]; simp only [List.length_cons, List.length_nil]; omega)) rfl (VOK_lt (run_add ..) rfl (VOK_again rfl ⟨i + 1, hlt, ?_, by omega⟩)))))))
      rw [ht1, hw1]
      exact congrArg (fun x => [AV.int .i64 x, _, _]) (inc64 (by omega))
  · have hlt : i = l.length := by simp only [decide_eq_false_iff_not] at hlt; omega
    subst hlt
    rw [List.take_length]
    have htl := textT_len l
    have h7 := p7 (textT l) (by omega)
    rw [back_all l hl] at h7
    have h9 := p9 (wantT 0 l) (by rw [wantT_len]; omega)
    exact VOK_call h7 rfl (okWr _) (VOK_ite rfl (fun _ => VOK_lt (run_eql ..) rfl (VOK_ite rfl (fun _ => VOK_call h9 rfl rfl (VOK_done rfl)) (fun h => by simp at h))) (fun h => by cases h))
end Go.Proofs.Ytmhcemkembijeaa.vars
