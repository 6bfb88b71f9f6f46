/-
  Numbers, by the document.
-/
import Derived.Test.YtmhcemkembijeaaV0
import Derived.KernelRfl
set_option maxRecDepth 100000
set_option linter.unusedVariables false
set_option linter.unusedSimpArgs false
namespace Go.Proofs.Ytmhcemkembijeaa.vars
open Go Go.Sx
def refRes : Option (GWord × Nat) → AV
  | some (w, n) => .tup [.agg (encW w), .int .i64 (n : Int)]
  | none => .tup [.agg (encW noW), .int .i64 0]
theorem refRes_ref (o : Option (GWord × Nat)) : noRef (refRes o) = true := by
  rcases o with _ | ⟨w, n⟩ <;> rfl
theorem isMs_at (s : List UInt8) (n : Nat) (h : n + 1 < s.length) : isMs (s.drop n) = (decide (s[n] = 109) && (decide (s[n + 1] = 115) && if h2 : n + 2 < s.length then !isLD s[n + 2] else true)) := by
  rw [List.drop_eq_getElem_cons (by omega : n < s.length), List.drop_eq_getElem_cons h]
  simp only [isMs]
  by_cases h2 : n + 2 < s.length
  · rw [dif_pos h2, List.drop_eq_getElem_cons h2]
  · rw [dif_neg h2, List.drop_eq_nil_of_le (by omega)]
theorem isMs_short (s : List UInt8) (n : Nat) (h : ¬ n + 1 < s.length) : isMs (s.drop n) = false := by
  have : (s.drop n).length ≤ 1 := by rw [List.length_drop]; omega
  rcases hr : s.drop n with _ | ⟨a, _ | ⟨b, t⟩⟩
  · rfl
  · rfl
  · rw [hr] at this; simp at this
theorem behind_at (s : List UInt8) (n : Nat) (h : n < s.length) : behind (s.drop n) = if s[n] = 46 then span isD (s.drop (n + 1)) else 0 := by
  rw [List.drop_eq_getElem_cons h]; rfl
theorem behind_short (s : List UInt8) (n : Nat) (h : ¬ n + 1 < s.length) : behind (s.drop n) = 0 := by
  rcases Nat.lt_or_ge n s.length with h1 | h1
  · rw [behind_at s n h1, List.drop_eq_nil_of_le (by omega)]
    split <;> rfl
  · rw [List.drop_eq_nil_of_le h1]; rfl
def w2 (a : AV) : AV := .agg [.int .i64 2, .str [], a, .flt .f64 0, .int .i64 0]
def w4 (a : AV) : AV := .agg [.int .i64 4, .str [], a, .flt .f64 0, .int .i64 0]
def z24 : VT := .done (.tup [.agg [.int .i64 0, .str [], .int .i64 0, .flt .f64 0, .int .i64 0], .int .i64 0])
def n24 : VT := .done (.tup [w2 (.sym 67), .sym 66])
def ms24 (q : Nat) : VT :=
 (.lt (.bin .gtr 3 false true) [.sym 65, .int .i64 15] q none
 (.ite q
  z24
  (.lt (.bin .add 3 false true) [.sym 66, .int .i64 1] (q + 1) none
  (.lt (.len 9) [.sym 64] (q + 2) none
  (.lt (.bin .lss 3 false false) [.sym (q + 1), .sym (q + 2)] (q + 3) none
  (.ite (q + 3)
   (.lt (.idx 9) [.sym 64, .sym 66] (q + 4) none
   (.lt (.bin .eql 5 false true) [.sym (q + 4), .int .u8 109] (q + 5) none
   (.ite (q + 5)
    (.lt (.bin .add 3 false true) [.sym 66, .int .i64 1] (q + 6) none
    (.lt (.idx 9) [.sym 64, .sym (q + 6)] (q + 7) none
    (.lt (.bin .eql 5 false true) [.sym (q + 7), .int .u8 115] (q + 8) none
    (.ite (q + 8)
     (.lt (.bin .add 3 false true) [.sym 66, .int .i64 2] (q + 9) none
     (.lt (.len 9) [.sym 64] (q + 10) none
     (.lt (.bin .eql 3 false false) [.sym (q + 9), .sym (q + 10)] (q + 11) none
     (.ite (q + 11)
      (.lt (.bin .add 3 false true) [.sym 66, .int .i64 2] (q + 12) none
      (.done (.tup [w4 (.sym 67), .sym (q + 12)])))
      (.lt (.bin .add 3 false true) [.sym 66, .int .i64 2] (q + 12) none
      (.lt (.idx 9) [.sym 64, .sym (q + 12)] (q + 13) none
      (.call 22 [.sym (q + 13)] (q + 14) [none]
      (.lt (.un .not) [.sym (q + 14)] (q + 15) none
      (.ite (q + 15)
       (.lt (.bin .add 3 false true) [.sym 66, .int .i64 2] (q + 16) none
       (.lt (.idx 9) [.sym 64, .sym (q + 16)] (q + 17) none
       (.call 23 [.sym (q + 17)] (q + 18) [none]
       (.lt (.un .not) [.sym (q + 18)] (q + 19) none
       (.ite (q + 19)
        (.lt (.bin .add 3 false true) [.sym 66, .int .i64 2] (q + 20) none
        (.done (.tup [w4 (.sym 67), .sym (q + 20)])))
        n24)))))
       n24)))))))))
     n24))))
    n24)))
   n24))))))
def fin24 (q p : Nat) : VT :=
 (.lt (.bin .gtr 3 false true) [.sym q, .int .i64 15] p none
 (.ite p
  z24
  (.lt (.conv 2 31) [.sym (q + 3)] (p + 1) none
  (.lt (.bin .quo 31 false false) [.sym (p + 1), .sym (q + 2)] (p + 2) none
  (.done (.tup [.agg [.int .i64 3, .str [], .int .i64 0, .sym (p + 2), .int .i64 0], .sym (q + 1)]))))))
def real24 (q b : Nat) : VT :=
 (.loop q 0 [.sym 65, .sym b, .flt .f64 4607182418800017408, .sym 67]
  (.cons 4
  (.lt (.len 9) [.sym 64] (q + 4) none
  (.lt (.bin .lss 3 false false) [.sym (q + 1), .sym (q + 4)] (q + 5) none
  (.ite (q + 5)
   (.lt (.idx 9) [.sym 64, .sym (q + 1)] (q + 6) none
   (.call 23 [.sym (q + 6)] (q + 7) [none]
   (.ite (q + 7)
    (.lt (.bin .lss 3 false true) [.sym q, .int .i64 15] (q + 8) none
    (.ite (q + 8)
     (.lt (.bin .mul 2 false true) [.sym (q + 3), .int .i64 10] (q + 9) none
     (.lt (.idx 9) [.sym 64, .sym (q + 1)] (q + 10) none
     (.lt (.bin .sub 5 false true) [.sym (q + 10), .int .u8 48] (q + 11) none
     (.lt (.conv 5 2) [.sym (q + 11)] (q + 12) none
     (.lt (.bin .add 2 false false) [.sym (q + 9), .sym (q + 12)] (q + 13) none
     (.lt (.bin .mul 31 false true) [.sym (q + 2), .flt .f64 4621819117588971520] (q + 14) none
     (.lt (.bin .add 3 false true) [.sym (q + 1), .int .i64 1] (q + 15) none
     (.lt (.bin .add 3 false true) [.sym q, .int .i64 1] (q + 16) none
     (.again 1 0 [.sym (q + 16), .sym (q + 15), .sym (q + 14), .sym (q + 13)])))))))))
     (.lt (.bin .add 3 false true) [.sym (q + 1), .int .i64 1] (q + 9) none
     (.lt (.bin .add 3 false true) [.sym q, .int .i64 1] (q + 10) none
     (.again 1 0 [.sym (q + 10), .sym (q + 9), .sym (q + 2), .sym (q + 3)])))))
    (fin24 q (q + 8)))))
   (fin24 q (q + 6)))))
  .nil))
def exit24 (q : Nat) : VT :=
 (.lt (.bin .add 3 false true) [.sym 66, .int .i64 1] q none
 (.lt (.len 9) [.sym 64] (q + 1) none
 (.lt (.bin .lss 3 false false) [.sym q, .sym (q + 1)] (q + 2) none
 (.ite (q + 2)
  (.lt (.idx 9) [.sym 64, .sym 66] (q + 3) none
  (.lt (.bin .eql 5 false true) [.sym (q + 3), .int .u8 46] (q + 4) none
  (.ite (q + 4)
   (.lt (.bin .add 3 false true) [.sym 66, .int .i64 1] (q + 5) none
   (.lt (.idx 9) [.sym 64, .sym (q + 5)] (q + 6) none
   (.call 23 [.sym (q + 6)] (q + 7) [none]
   (.ite (q + 7)
    (.lt (.bin .add 3 false true) [.sym 66, .int .i64 1] (q + 8) none
    (real24 (q + 9) (q + 8)))
    (ms24 (q + 8))))))
   (ms24 (q + 5)))))
  (ms24 (q + 3))))))
def c24 : VC := ⟨⟨[], []⟩, [(22, [none]), (23, [none])], [(0, [⟨[(5, .slx 0 0 0), (4, .slx 1 0 0), (0, .sym 64), (7, .slx 2 0 0), (6, .flt .f64 4607182418800017408), (2, .ptr 0 0)], [(0, [.int .i64 0, .str [], .int .i64 0, .flt .f64 0, .int .i64 0])], 1, 3, [], []⟩]), (2, [⟨[(5, .slx 0 0 0), (4, .slx 1 0 0), (6, .slx 2 0 0), (0, .sym 64), (7, .slx 3 0 0), (2, .ptr 0 0)], [(0, [.int .i64 0, .str [], .int .i64 0, .flt .f64 0, .int .i64 0])], 1, 4, [], []⟩])]⟩
def t24 : VT :=
 (.loop 65 0 [.int .i64 0, .int .i64 0, .int .i64 0]
  (.cons 3
  (.lt (.len 9) [.sym 64] 68 none
  (.lt (.bin .lss 3 false false) [.sym 66, .sym 68] 69 none
  (.ite 69
   (.lt (.idx 9) [.sym 64, .sym 66] 70 none
   (.call 23 [.sym 70] 71 [none]
   (.ite 71
    (.lt (.bin .lss 3 false true) [.sym 65, .int .i64 15] 72 none
    (.ite 72
     (.lt (.bin .mul 2 false true) [.sym 67, .int .i64 10] 73 none
     (.lt (.idx 9) [.sym 64, .sym 66] 74 none
     (.lt (.bin .sub 5 false true) [.sym 74, .int .u8 48] 75 none
     (.lt (.conv 5 2) [.sym 75] 76 none
     (.lt (.bin .add 2 false false) [.sym 73, .sym 76] 77 none
     (.lt (.bin .add 3 false true) [.sym 66, .int .i64 1] 78 none
     (.lt (.bin .add 3 false true) [.sym 65, .int .i64 1] 79 none
     (.again 0 0 [.sym 79, .sym 78, .sym 77]))))))))
     (.lt (.bin .add 3 false true) [.sym 66, .int .i64 1] 73 none
     (.lt (.bin .add 3 false true) [.sym 65, .int .i64 1] 74 none
     (.again 0 0 [.sym 74, .sym 73, .sym 67])))))
    (exit24 72))))
   (exit24 70))))
  .nil))
/-- the digits ahead of a point, and behind it -/
def digs (s : List UInt8) (n b : Nat) : List UInt8 := s.take n ++ (s.drop (n + 1)).take b
theorem digs_len (s : List UInt8) (n b : Nat) (h : n + 1 + b ≤ s.length) : (digs s n b).length = n + b := by
  unfold digs; rw [List.length_append, List.length_take, List.length_take, List.length_drop]; omega
theorem digs_take (s : List UInt8) (n b k : Nat) (h : k ≤ n) (hn : n ≤ s.length) : (digs s n b).take k = s.take k := by
  unfold digs
  rw [List.take_append_of_le_length (by rw [List.length_take]; omega), List.take_take, Nat.min_eq_left h]
theorem digs_at (s : List UInt8) (n b j : Nat) (h : n + 1 + b ≤ s.length) (hj : j < b) (hl : n + j < (digs s n b).length) : (digs s n b)[n + j] = s[n + 1 + j] := by
  have hl' : n + j < (s.take n ++ (s.drop (n + 1)).take b).length := hl
  show (s.take n ++ (s.drop (n + 1)).take b)[n + j]'hl' = _
  rw [List.getElem_append_right (by rw [List.length_take]; omega)]
  simp only [List.getElem_take, List.getElem_drop, List.length_take]
  congr 1
  omega
theorem digs_dig (s : List UInt8) (n b : Nat) (hn : n = span isD s) (hb : b = span isD (s.drop (n + 1))) : ∀ c ∈ digs s n b, isD c = true := by
  intro c hc
  unfold digs at hc
  rcases List.mem_append.1 hc with hc | hc
  · rw [hn] at hc; exact span_mem isD s c hc
  · rw [hb] at hc; exact span_mem isD _ c hc
theorem p24 (s : List UInt8) (hs : s.length < 9223372036854775000) : Pure Try.prog 24 [.str s] (refRes (numS s)) := by
  refine pure_shape (sh := [none]) (ls := [.str s]) (c := c24) (n := 300) (t := t24) mo ov rfl rfl (refRes_ref _) (fun Y _ => known0 _) rfl (by kernel_rfl) fun Y hf hg => ?_
  unfold t24
  refine VOK_loop (ι := Nat) (fun n => [.int .i64 (n : Int), .int .i64 (n : Int), .int .i64 (val (s.take (min n 15)) : Int)]) (fun n => n ≤ s.length ∧ span isD s = n + span isD (s.drop n)) (fun n => s.length - n) 0 ⟨Nat.zero_le _, by simp⟩ rfl (fun _ _ => rfl) (fun i j _ _ h => ?_) (fun n hn => ?_)
  · simp at h; have h : i = j := by omega
    rw [h]
  obtain ⟨hn, hc⟩ := hn
  refine VOK_lt (run_len_str str9 s) rfl (VOK_lt (run_lss ..) rfl (VOK_ite rfl (fun hlt => ?_) (fun hlt => ?_)))
  · have hlt : n < s.length := by simp only [decide_eq_true_eq] at hlt; omega
    have hx := span_at isD s n hlt
    refine VOK_lt (run_idx_str str9 s .i64 n hlt) rfl (VOK_call (p23 _) rfl rfl (VOK_ite rfl (fun hd => ?_) (fun hd => ?_)))
    · rw [hd, if_pos rfl] at hx
      have hmem : ∀ c ∈ s.take (n + 1), isD c = true := fun c hc' => span_mem isD s c (by
        have : s.take (n + 1) = (s.take (span isD s)).take (n + 1) := by rw [List.take_take, Nat.min_eq_left (by omega)]
        rw [this] at hc'
        exact List.mem_of_mem_take hc')
      refine VOK_lt (run_lss ..) rfl (VOK_ite rfl (fun g15 => ?_) (fun g15 => ?_))
      · have g15 : n < 15 := by simp only [decide_eq_true_eq] at g15; omega
        have hv := val_lt n (s.take n) (by rw [List.length_take]; omega) fun c hc' => hmem c (by
          have : s.take n = (s.take (n + 1)).take n := by rw [List.take_take, Nat.min_eq_left (by omega)]
          rw [this] at hc'
          exact List.mem_of_mem_take hc')
        have hp := pow15 (n := n) (by omega)
        have hdig := (isD_iff _).1 hd
        rw [show min n 15 = n by omega]
        refine VOK_lt (run_mul ..) rfl (VOK_lt (run_idx_str str9 s .i64 n hlt) rfl (VOK_lt (run_sub ..) rfl (VOK_lt (run_conv_ii Try.underlying5 Try.underlying2 _) rfl (VOK_lt (run_add ..) rfl (VOK_lt (run_add ..) rfl (VOK_lt (run_add ..) rfl (VOK_again rfl ⟨n + 1, ⟨hlt, by omega⟩, ?_, by omega⟩)))))))
        rw [dig_wrap hd, wrap64 (x := _ * 10) (by omega) (by omega), wrap64 (x := ((s[n].toNat - 48 : Nat) : Int)) (by omega) (by omega), wrap64 (x := (_ : Int) + ((s[n].toNat - 48 : Nat) : Int)) (by omega) (by omega), inc64 (by omega), show min (n + 1) 15 = n + 1 by omega, val_take s n hlt]
        refine congrArg (fun x => [AV.int .i64 ((n + 1 : Nat) : Int), AV.int .i64 ((n + 1 : Nat) : Int), AV.int .i64 x]) ?_
        omega
      · have g15 : 15 ≤ n := by simp only [decide_eq_false_iff_not] at g15; omega
        refine VOK_lt (run_add ..) rfl (VOK_lt (run_add ..) rfl (VOK_again rfl ⟨n + 1, ⟨hlt, by omega⟩, ?_, by omega⟩))
        rw [inc64 (by omega), show min (n + 1) 15 = min n 15 by omega]
        rfl
    · have hn0 : n = span isD s := by rw [hd] at hx; have : span isD (s.drop n) = 0 := hx; omega
      unfold exit24
      refine VOK_lt (run_add ..) rfl ?_
      rw [inc64 (by omega)]
      refine VOK_lt (run_len_str str9 s) rfl (VOK_lt (run_lss ..) rfl (VOK_ite rfl (fun e1 => ?_) (fun e1 => ?_)))
      · have e1 : n + 1 < s.length := by simp only [decide_eq_true_eq] at e1; omega
        have hba := behind_at s n (by omega)
        refine VOK_lt (run_idx_str str9 s .i64 n (by omega)) rfl (VOK_lt (at_eq (n := n) (by omega) 46 46 rfl ..) rfl (VOK_ite rfl (fun e2 => ?_) (fun e2 => ?_)))
        · rw [if_pos (of_decide_eq_true e2)] at hba
          have hsp := span_at isD s (n + 1) e1
          refine VOK_lt (run_add ..) rfl ?_
          rw [inc64 (by omega)]
          refine VOK_lt (run_idx_str str9 s .i64 (n + 1) e1) rfl (VOK_call (p23 _) rfl rfl (VOK_ite rfl (fun e3 => ?_) (fun e3 => ?_)))
          · refine VOK_lt (run_add ..) rfl ?_
            rw [inc64 (by omega)]
            obtain ⟨b, hbe⟩ : ∃ b, b = span isD (s.drop (n + 1)) := ⟨_, rfl⟩
            have hb : behind (s.drop n) = b := by rw [hba, hbe]
            have hb0 : 0 < b := by rw [hbe, hsp, e3]; simp
            have hbl : n + 1 + b ≤ s.length := by
              have := span_le isD (s.drop (n + 1))
              rw [List.length_drop] at this
              omega
            unfold real24
            refine VOK_loop (ι := Nat) (fun j => [.int .i64 ((n + j : Nat) : Int), .int .i64 ((n + 1 + j : Nat) : Int), .flt .f64 (tensT (min j (15 - n))), .int .i64 (val ((digs s n b).take (min (n + j) 15)) : Int)])
              (fun j => j ≤ b ∧ b = j + span isD (s.drop (n + 1 + j))) (fun j => b - j) 0 ⟨Nat.zero_le _, by simpa using hbe⟩ ?_ (fun _ _ => rfl) (fun i j _ _ h => ?_) (fun j hj => ?_)
            · show [AV.int .i64 (n : Int), AV.int .i64 ((n + 1 : Nat) : Int), AV.flt .f64 (tensT 0), AV.int .i64 (val (s.take (min n 15)) : Int)] = [AV.int .i64 (n : Int), AV.int .i64 ((n + 1 : Nat) : Int), AV.flt .f64 (tensT (min 0 (15 - n))), AV.int .i64 (val ((digs s n b).take (min n 15)) : Int)]
              rw [show min 0 (15 - n) = 0 by omega, digs_take s n b (min n 15) (by omega) (by omega)]
            · simp at h; have h : i = j := by omega
              rw [h]
            obtain ⟨hjb, hjs⟩ := hj
            refine VOK_lt (run_len_str str9 s) rfl (VOK_lt (run_lss ..) rfl (VOK_ite rfl (fun f1 => ?_) (fun f1 => ?_)))
            · have f1 : n + 1 + j < s.length := by simp only [decide_eq_true_eq] at f1; omega
              have hsj := span_at isD s (n + 1 + j) f1
              refine VOK_lt (run_idx_str str9 s .i64 (n + 1 + j) f1) rfl (VOK_call (p23 _) rfl rfl (VOK_ite rfl (fun f2 => ?_) (fun f2 => ?_)))
              · rw [f2, if_pos rfl] at hsj
                have hlt : j < b := by omega
                refine VOK_lt (run_lss ..) rfl (VOK_ite rfl (fun f3 => ?_) (fun f3 => ?_))
                · have f3 : n + j < 15 := by simp only [decide_eq_true_eq] at f3; omega
                  have hdl : n + j < (digs s n b).length := by rw [digs_len s n b hbl]; omega
                  have hdv : (digs s n b)[n + j] = s[n + 1 + j] := digs_at s n b j hbl hlt hdl
                  have hdall := digs_dig s n b hn0 hbe
                  have hv := val_lt (n + j) ((digs s n b).take (n + j)) (by rw [List.length_take]; omega) fun c hc => hdall c (List.mem_of_mem_take hc)
                  have hp := pow15 (n := n + j) (by omega)
                  have hdig := (isD_iff _).1 f2
                  rw [show min (n + j) 15 = n + j by omega, show min j (15 - n) = j by omega]
                  refine VOK_lt (run_mul ..) rfl (VOK_lt (run_idx_str str9 s .i64 (n + 1 + j) f1) rfl (VOK_lt (run_sub ..) rfl (VOK_lt (run_conv_ii Try.underlying5 Try.underlying2 _) rfl (VOK_lt (run_add ..) rfl (VOK_lt (run_tens 31 false true (by omega)) rfl (VOK_lt (run_add ..) rfl (VOK_lt (run_add ..) rfl (VOK_again rfl ⟨j + 1, ⟨hlt, ?_⟩, ?_, by omega⟩))))))))
                  · rw [show n + 1 + (j + 1) = n + 1 + j + 1 by omega]; omega
                  rw [dig_wrap f2, wrap64 (x := _ * 10) (by omega) (by omega), wrap64 (x := ((s[n + 1 + j].toNat - 48 : Nat) : Int)) (by omega) (by omega), wrap64 (x := (_ : Int) + ((s[n + 1 + j].toNat - 48 : Nat) : Int)) (by omega) (by omega), inc64 (n := n + 1 + j) (by omega), inc64 (n := n + j) (by omega),
                    show min (n + (j + 1)) 15 = n + j + 1 by omega, show min (j + 1) (15 - n) = j + 1 by omega, val_take _ _ hdl, hdv]
                  refine congrArg (fun x => [AV.int .i64 ((n + j + 1 : Nat) : Int), AV.int .i64 ((n + 1 + j + 1 : Nat) : Int), _, AV.int .i64 x]) ?_
                  omega
                · have f3 : 15 ≤ n + j := by simp only [decide_eq_false_iff_not] at f3; omega
                  refine VOK_lt (run_add ..) rfl (VOK_lt (run_add ..) rfl (VOK_again rfl ⟨j + 1, ⟨hlt, ?_⟩, ?_, by omega⟩))
                  · rw [show n + 1 + (j + 1) = n + 1 + j + 1 by omega]; omega
                  rw [inc64 (n := n + 1 + j) (by omega), inc64 (n := n + j) (by omega), show min (n + (j + 1)) 15 = min (n + j) 15 by omega, show min (j + 1) (15 - n) = min j (15 - n) by omega]
                  rfl
              · rw [f2] at hsj
                have hjb' : j = b := by
                  have : span isD (s.drop (n + 1 + j)) = 0 := hsj
                  omega
                subst hjb'
                unfold fin24 z24
                refine VOK_lt (run_gtr ..) rfl (VOK_ite rfl (fun g1 => VOK_done ?_) (fun g1 => ?_))
                · have g1 : 15 < n + j := by simp only [decide_eq_true_eq] at g1; omega
                  have : numS s = none := by unfold numS; rw [← hn0, hb, if_pos (by omega)]
                  rw [this]; rfl
                have g1 : n + j ≤ 15 := by simp only [decide_eq_false_iff_not] at g1; omega
                have hres : numS s = some (realS s j) := by unfold numS; rw [← hn0, hb, if_neg (by omega), if_pos hb0]
                rw [show min j (15 - n) = j by omega, show min (n + j) 15 = n + j by omega]
                refine VOK_lt (run_conv_if Try.underlying2 Try.underlying31 _) rfl (VOK_lt (run_quo 31 false false _ (by omega)) rfl (VOK_done ?_))
                rw [hres]
                unfold realS
                rw [← hn0]
                have : (digs s n j).take (n + j) = digs s n j := List.take_of_length_le (by rw [digs_len s n j (by omega)]; exact Nat.le_refl _)
                rw [this]; rfl
            · have f1 : ¬ n + 1 + j < s.length := by simp only [decide_eq_false_iff_not] at f1; omega
              have hjb' : j = b := by
                rw [List.drop_eq_nil_of_le (by omega)] at hjs
                have : b = j + 0 := hjs
                omega
              subst hjb'
              unfold fin24 z24
              refine VOK_lt (run_gtr ..) rfl (VOK_ite rfl (fun g1 => VOK_done ?_) (fun g1 => ?_))
              · have g1 : 15 < n + j := by simp only [decide_eq_true_eq] at g1; omega
                have : numS s = none := by unfold numS; rw [← hn0, hb, if_pos (by omega)]
                rw [this]; rfl
              have g1 : n + j ≤ 15 := by simp only [decide_eq_false_iff_not] at g1; omega
              have hres : numS s = some (realS s j) := by unfold numS; rw [← hn0, hb, if_neg (by omega), if_pos hb0]
              rw [show min j (15 - n) = j by omega, show min (n + j) 15 = n + j by omega]
              refine VOK_lt (run_conv_if Try.underlying2 Try.underlying31 _) rfl (VOK_lt (run_quo 31 false false _ (by omega)) rfl (VOK_done ?_))
              rw [hres]
              unfold realS
              rw [← hn0]
              have : (digs s n j).take (n + j) = digs s n j := List.take_of_length_le (by rw [digs_len s n j (by omega)]; exact Nat.le_refl _)
              rw [this]; rfl
          · have hb : behind (s.drop n) = 0 := by rw [hba, hsp, e3]; rfl
            unfold ms24 z24 n24
            refine VOK_lt (run_gtr ..) rfl (VOK_ite rfl (fun g1 => VOK_done ?_) (fun g1 => ?_))
            · have g1 : 15 < n := by simp only [decide_eq_true_eq] at g1; omega
              have : numS s = none := by unfold numS; rw [← hn0, if_pos (by omega)]
              rw [this]; rfl
            have g1 : n ≤ 15 := by simp only [decide_eq_false_iff_not] at g1; omega
            have hms : numS s = some (msS s) := by unfold numS; rw [← hn0, hb, if_neg (by omega), if_neg (by omega)]
            have hv : val (s.take (min n 15)) = val (s.take n) := by rw [Nat.min_eq_left g1]
            have no : isMs (s.drop n) = false → refRes (numS s) = .tup [w2 (.int .i64 (val (s.take (min n 15)) : Int)), .int .i64 (n : Int)] := fun h => by
              rw [hms, hv]; unfold msS; rw [← hn0, h]; rfl
            have yes : isMs (s.drop n) = true → refRes (numS s) = .tup [w4 (.int .i64 (val (s.take (min n 15)) : Int)), .int .i64 ((n + 2 : Nat) : Int)] := fun h => by
              rw [hms, hv]; unfold msS; rw [← hn0, h]; rfl
            refine VOK_lt (run_add ..) rfl ?_
            rw [inc64 (by omega)]
            refine VOK_lt (run_len_str str9 s) rfl (VOK_lt (run_lss ..) rfl (VOK_ite rfl (fun g2 => ?_) (fun g2 => VOK_done ?_)))
            · have g2 : n + 1 < s.length := by simp only [decide_eq_true_eq] at g2; omega
              have hat := isMs_at s n g2
              refine VOK_lt (run_idx_str str9 s .i64 n (by omega)) rfl (VOK_lt (at_eq (n := n) (by omega) 109 109 rfl ..) rfl (VOK_ite rfl (fun g3 => ?_) (fun g3 => VOK_done ?_)))
              · refine VOK_lt (run_add ..) rfl ?_
                rw [inc64 (by omega)]
                refine VOK_lt (run_idx_str str9 s .i64 (n + 1) g2) rfl (VOK_lt (at_eq g2 115 115 rfl ..) rfl (VOK_ite rfl (fun g4 => ?_) (fun g4 => VOK_done ?_)))
                · refine VOK_lt (run_add ..) rfl ?_
                  rw [add2 (by omega)]
                  rw [g3, g4] at hat
                  refine VOK_lt (run_len_str str9 s) rfl (VOK_lt (run_eql ..) rfl (VOK_ite rfl (fun g5 => VOK_lt (run_add ..) rfl (VOK_done ?_)) (fun g5 => ?_)))
                  · have g5 : n + 2 = s.length := by simp only [decide_eq_true_eq] at g5; omega
                    rw [add2 (by omega)]
                    refine (yes ?_).symm
                    rw [hat, dif_neg (by omega)]; rfl
                  · have g5 : n + 2 < s.length := by simp only [decide_eq_false_iff_not] at g5; omega
                    rw [dif_pos g5] at hat
                    refine VOK_lt (run_add ..) rfl ?_
                    rw [add2 (by omega)]
                    refine VOK_lt (run_idx_str str9 s .i64 (n + 2) g5) rfl (VOK_call (p22 _) rfl rfl (VOK_lt (run_not ..) rfl (VOK_ite rfl (fun g6 => ?_) (fun g6 => VOK_done ?_))))
                    · refine VOK_lt (run_add ..) rfl ?_
                      rw [add2 (by omega)]
                      refine VOK_lt (run_idx_str str9 s .i64 (n + 2) g5) rfl (VOK_call (p23 _) rfl rfl (VOK_lt (run_not ..) rfl (VOK_ite rfl (fun g7 => VOK_lt (run_add ..) rfl (VOK_done ?_)) (fun g7 => VOK_done ?_))))
                      · rw [add2 (by omega)]
                        refine (yes ?_).symm
                        rw [hat]; unfold isLD
                        rw [Bool.not_eq_true'] at g6 g7
                        rw [g6, g7]; rfl
                      · refine (no ?_).symm
                        rw [hat]; unfold isLD
                        rw [Bool.not_eq_false'] at g7
                        rw [g7]; simp
                    · refine (no ?_).symm
                      rw [hat]; unfold isLD
                      rw [Bool.not_eq_false'] at g6
                      rw [g6]; simp
                · refine (no ?_).symm
                  rw [hat, g4]; simp
              · refine (no ?_).symm
                rw [hat, g3]; simp
            · have g2 : ¬ n + 1 < s.length := by simp only [decide_eq_false_iff_not] at g2; omega
              exact (no (isMs_short s n g2)).symm
        · have hb : behind (s.drop n) = 0 := by rw [hba, if_neg (of_decide_eq_false e2)]
          unfold ms24 z24 n24
          refine VOK_lt (run_gtr ..) rfl (VOK_ite rfl (fun g1 => VOK_done ?_) (fun g1 => ?_))
          · have g1 : 15 < n := by simp only [decide_eq_true_eq] at g1; omega
            have : numS s = none := by unfold numS; rw [← hn0, if_pos (by omega)]
            rw [this]; rfl
          have g1 : n ≤ 15 := by simp only [decide_eq_false_iff_not] at g1; omega
          have hms : numS s = some (msS s) := by unfold numS; rw [← hn0, hb, if_neg (by omega), if_neg (by omega)]
          have hv : val (s.take (min n 15)) = val (s.take n) := by rw [Nat.min_eq_left g1]
          have no : isMs (s.drop n) = false → refRes (numS s) = .tup [w2 (.int .i64 (val (s.take (min n 15)) : Int)), .int .i64 (n : Int)] := fun h => by
            rw [hms, hv]; unfold msS; rw [← hn0, h]; rfl
          have yes : isMs (s.drop n) = true → refRes (numS s) = .tup [w4 (.int .i64 (val (s.take (min n 15)) : Int)), .int .i64 ((n + 2 : Nat) : Int)] := fun h => by
            rw [hms, hv]; unfold msS; rw [← hn0, h]; rfl
          refine VOK_lt (run_add ..) rfl ?_
          rw [inc64 (by omega)]
          refine VOK_lt (run_len_str str9 s) rfl (VOK_lt (run_lss ..) rfl (VOK_ite rfl (fun g2 => ?_) (fun g2 => VOK_done ?_)))
          · have g2 : n + 1 < s.length := by simp only [decide_eq_true_eq] at g2; omega
            have hat := isMs_at s n g2
            refine VOK_lt (run_idx_str str9 s .i64 n (by omega)) rfl (VOK_lt (at_eq (n := n) (by omega) 109 109 rfl ..) rfl (VOK_ite rfl (fun g3 => ?_) (fun g3 => VOK_done ?_)))
            · refine VOK_lt (run_add ..) rfl ?_
              rw [inc64 (by omega)]
              refine VOK_lt (run_idx_str str9 s .i64 (n + 1) g2) rfl (VOK_lt (at_eq g2 115 115 rfl ..) rfl (VOK_ite rfl (fun g4 => ?_) (fun g4 => VOK_done ?_)))
              · refine VOK_lt (run_add ..) rfl ?_
                rw [add2 (by omega)]
                rw [g3, g4] at hat
                refine VOK_lt (run_len_str str9 s) rfl (VOK_lt (run_eql ..) rfl (VOK_ite rfl (fun g5 => VOK_lt (run_add ..) rfl (VOK_done ?_)) (fun g5 => ?_)))
                · have g5 : n + 2 = s.length := by simp only [decide_eq_true_eq] at g5; omega
                  rw [add2 (by omega)]
                  refine (yes ?_).symm
                  rw [hat, dif_neg (by omega)]; rfl
                · have g5 : n + 2 < s.length := by simp only [decide_eq_false_iff_not] at g5; omega
                  rw [dif_pos g5] at hat
                  refine VOK_lt (run_add ..) rfl ?_
                  rw [add2 (by omega)]
                  refine VOK_lt (run_idx_str str9 s .i64 (n + 2) g5) rfl (VOK_call (p22 _) rfl rfl (VOK_lt (run_not ..) rfl (VOK_ite rfl (fun g6 => ?_) (fun g6 => VOK_done ?_))))
                  · refine VOK_lt (run_add ..) rfl ?_
                    rw [add2 (by omega)]
                    refine VOK_lt (run_idx_str str9 s .i64 (n + 2) g5) rfl (VOK_call (p23 _) rfl rfl (VOK_lt (run_not ..) rfl (VOK_ite rfl (fun g7 => VOK_lt (run_add ..) rfl (VOK_done ?_)) (fun g7 => VOK_done ?_))))
                    · rw [add2 (by omega)]
                      refine (yes ?_).symm
                      rw [hat]; unfold isLD
                      rw [Bool.not_eq_true'] at g6 g7
                      rw [g6, g7]; rfl
                    · refine (no ?_).symm
                      rw [hat]; unfold isLD
                      rw [Bool.not_eq_false'] at g7
                      rw [g7]; simp
                  · refine (no ?_).symm
                    rw [hat]; unfold isLD
                    rw [Bool.not_eq_false'] at g6
                    rw [g6]; simp
              · refine (no ?_).symm
                rw [hat, g4]; simp
            · refine (no ?_).symm
              rw [hat, g3]; simp
          · have g2 : ¬ n + 1 < s.length := by simp only [decide_eq_false_iff_not] at g2; omega
            exact (no (isMs_short s n g2)).symm
      · have e1 : ¬ n + 1 < s.length := by simp only [decide_eq_false_iff_not] at e1; omega
        have hb := behind_short s n e1
        unfold ms24 z24 n24
        refine VOK_lt (run_gtr ..) rfl (VOK_ite rfl (fun g1 => VOK_done ?_) (fun g1 => ?_))
        · have g1 : 15 < n := by simp only [decide_eq_true_eq] at g1; omega
          have : numS s = none := by unfold numS; rw [← hn0, if_pos (by omega)]
          rw [this]; rfl
        have g1 : n ≤ 15 := by simp only [decide_eq_false_iff_not] at g1; omega
        have hms : numS s = some (msS s) := by unfold numS; rw [← hn0, hb, if_neg (by omega), if_neg (by omega)]
        have hv : val (s.take (min n 15)) = val (s.take n) := by rw [Nat.min_eq_left g1]
        have no : isMs (s.drop n) = false → refRes (numS s) = .tup [w2 (.int .i64 (val (s.take (min n 15)) : Int)), .int .i64 (n : Int)] := fun h => by
          rw [hms, hv]; unfold msS; rw [← hn0, h]; rfl
        have yes : isMs (s.drop n) = true → refRes (numS s) = .tup [w4 (.int .i64 (val (s.take (min n 15)) : Int)), .int .i64 ((n + 2 : Nat) : Int)] := fun h => by
          rw [hms, hv]; unfold msS; rw [← hn0, h]; rfl
        refine VOK_lt (run_add ..) rfl ?_
        rw [inc64 (by omega)]
        refine VOK_lt (run_len_str str9 s) rfl (VOK_lt (run_lss ..) rfl (VOK_ite rfl (fun g2 => ?_) (fun g2 => VOK_done ?_)))
        · have g2 : n + 1 < s.length := by simp only [decide_eq_true_eq] at g2; omega
          have hat := isMs_at s n g2
          refine VOK_lt (run_idx_str str9 s .i64 n (by omega)) rfl (VOK_lt (at_eq (n := n) (by omega) 109 109 rfl ..) rfl (VOK_ite rfl (fun g3 => ?_) (fun g3 => VOK_done ?_)))
          · refine VOK_lt (run_add ..) rfl ?_
            rw [inc64 (by omega)]
            refine VOK_lt (run_idx_str str9 s .i64 (n + 1) g2) rfl (VOK_lt (at_eq g2 115 115 rfl ..) rfl (VOK_ite rfl (fun g4 => ?_) (fun g4 => VOK_done ?_)))
            · refine VOK_lt (run_add ..) rfl ?_
              rw [add2 (by omega)]
              rw [g3, g4] at hat
              refine VOK_lt (run_len_str str9 s) rfl (VOK_lt (run_eql ..) rfl (VOK_ite rfl (fun g5 => VOK_lt (run_add ..) rfl (VOK_done ?_)) (fun g5 => ?_)))
              · have g5 : n + 2 = s.length := by simp only [decide_eq_true_eq] at g5; omega
                rw [add2 (by omega)]
                refine (yes ?_).symm
                rw [hat, dif_neg (by omega)]; rfl
              · have g5 : n + 2 < s.length := by simp only [decide_eq_false_iff_not] at g5; omega
                rw [dif_pos g5] at hat
                refine VOK_lt (run_add ..) rfl ?_
                rw [add2 (by omega)]
                refine VOK_lt (run_idx_str str9 s .i64 (n + 2) g5) rfl (VOK_call (p22 _) rfl rfl (VOK_lt (run_not ..) rfl (VOK_ite rfl (fun g6 => ?_) (fun g6 => VOK_done ?_))))
                · refine VOK_lt (run_add ..) rfl ?_
                  rw [add2 (by omega)]
                  refine VOK_lt (run_idx_str str9 s .i64 (n + 2) g5) rfl (VOK_call (p23 _) rfl rfl (VOK_lt (run_not ..) rfl (VOK_ite rfl (fun g7 => VOK_lt (run_add ..) rfl (VOK_done ?_)) (fun g7 => VOK_done ?_))))
                  · rw [add2 (by omega)]
                    refine (yes ?_).symm
                    rw [hat]; unfold isLD
                    rw [Bool.not_eq_true'] at g6 g7
                    rw [g6, g7]; rfl
                  · refine (no ?_).symm
                    rw [hat]; unfold isLD
                    rw [Bool.not_eq_false'] at g7
                    rw [g7]; simp
                · refine (no ?_).symm
                  rw [hat]; unfold isLD
                  rw [Bool.not_eq_false'] at g6
                  rw [g6]; simp
            · refine (no ?_).symm
              rw [hat, g4]; simp
          · refine (no ?_).symm
            rw [hat, g3]; simp
        · have g2 : ¬ n + 1 < s.length := by simp only [decide_eq_false_iff_not] at g2; omega
          exact (no (isMs_short s n g2)).symm
  · have hlt : ¬ n < s.length := by simp only [decide_eq_false_iff_not] at hlt; omega
    have hn0 : n = span isD s := by rw [List.drop_eq_nil_of_le (by omega)] at hc; exact hc.symm
    unfold exit24
    refine VOK_lt (run_add ..) rfl ?_
    rw [inc64 (by omega)]
    refine VOK_lt (run_len_str str9 s) rfl (VOK_lt (run_lss ..) rfl (VOK_ite rfl (fun e1 => ?_) (fun e1 => ?_)))
    · have e1 : n + 1 < s.length := by simp only [decide_eq_true_eq] at e1; omega
      have hba := behind_at s n (by omega)
      refine VOK_lt (run_idx_str str9 s .i64 n (by omega)) rfl (VOK_lt (at_eq (n := n) (by omega) 46 46 rfl ..) rfl (VOK_ite rfl (fun e2 => ?_) (fun e2 => ?_)))
      · rw [if_pos (of_decide_eq_true e2)] at hba
        have hsp := span_at isD s (n + 1) e1
        refine VOK_lt (run_add ..) rfl ?_
        rw [inc64 (by omega)]
        refine VOK_lt (run_idx_str str9 s .i64 (n + 1) e1) rfl (VOK_call (p23 _) rfl rfl (VOK_ite rfl (fun e3 => ?_) (fun e3 => ?_)))
        · refine VOK_lt (run_add ..) rfl ?_
          rw [inc64 (by omega)]
          obtain ⟨b, hbe⟩ : ∃ b, b = span isD (s.drop (n + 1)) := ⟨_, rfl⟩
          have hb : behind (s.drop n) = b := by rw [hba, hbe]
          have hb0 : 0 < b := by rw [hbe, hsp, e3]; simp
          have hbl : n + 1 + b ≤ s.length := by
            have := span_le isD (s.drop (n + 1))
            rw [List.length_drop] at this
            omega
          unfold real24
          refine VOK_loop (ι := Nat) (fun j => [.int .i64 ((n + j : Nat) : Int), .int .i64 ((n + 1 + j : Nat) : Int), .flt .f64 (tensT (min j (15 - n))), .int .i64 (val ((digs s n b).take (min (n + j) 15)) : Int)])
            (fun j => j ≤ b ∧ b = j + span isD (s.drop (n + 1 + j))) (fun j => b - j) 0 ⟨Nat.zero_le _, by simpa using hbe⟩ ?_ (fun _ _ => rfl) (fun i j _ _ h => ?_) (fun j hj => ?_)
          · show [AV.int .i64 (n : Int), AV.int .i64 ((n + 1 : Nat) : Int), AV.flt .f64 (tensT 0), AV.int .i64 (val (s.take (min n 15)) : Int)] = [AV.int .i64 (n : Int), AV.int .i64 ((n + 1 : Nat) : Int), AV.flt .f64 (tensT (min 0 (15 - n))), AV.int .i64 (val ((digs s n b).take (min n 15)) : Int)]
            rw [show min 0 (15 - n) = 0 by omega, digs_take s n b (min n 15) (by omega) (by omega)]
          · simp at h; have h : i = j := by omega
            rw [h]
          obtain ⟨hjb, hjs⟩ := hj
          refine VOK_lt (run_len_str str9 s) rfl (VOK_lt (run_lss ..) rfl (VOK_ite rfl (fun f1 => ?_) (fun f1 => ?_)))
          · have f1 : n + 1 + j < s.length := by simp only [decide_eq_true_eq] at f1; omega
            have hsj := span_at isD s (n + 1 + j) f1
            refine VOK_lt (run_idx_str str9 s .i64 (n + 1 + j) f1) rfl (VOK_call (p23 _) rfl rfl (VOK_ite rfl (fun f2 => ?_) (fun f2 => ?_)))
            · rw [f2, if_pos rfl] at hsj
              have hlt : j < b := by omega
              refine VOK_lt (run_lss ..) rfl (VOK_ite rfl (fun f3 => ?_) (fun f3 => ?_))
              · have f3 : n + j < 15 := by simp only [decide_eq_true_eq] at f3; omega
                have hdl : n + j < (digs s n b).length := by rw [digs_len s n b hbl]; omega
                have hdv : (digs s n b)[n + j] = s[n + 1 + j] := digs_at s n b j hbl hlt hdl
                have hdall := digs_dig s n b hn0 hbe
                have hv := val_lt (n + j) ((digs s n b).take (n + j)) (by rw [List.length_take]; omega) fun c hc => hdall c (List.mem_of_mem_take hc)
                have hp := pow15 (n := n + j) (by omega)
                have hdig := (isD_iff _).1 f2
                rw [show min (n + j) 15 = n + j by omega, show min j (15 - n) = j by omega]
                refine VOK_lt (run_mul ..) rfl (VOK_lt (run_idx_str str9 s .i64 (n + 1 + j) f1) rfl (VOK_lt (run_sub ..) rfl (VOK_lt (run_conv_ii Try.underlying5 Try.underlying2 _) rfl (VOK_lt (run_add ..) rfl (VOK_lt (run_tens 31 false true (by omega)) rfl (VOK_lt (run_add ..) rfl (VOK_lt (run_add ..) rfl (VOK_again rfl ⟨j + 1, ⟨hlt, ?_⟩, ?_, by omega⟩))))))))
                · rw [show n + 1 + (j + 1) = n + 1 + j + 1 by omega]; omega
                rw [dig_wrap f2, wrap64 (x := _ * 10) (by omega) (by omega), wrap64 (x := ((s[n + 1 + j].toNat - 48 : Nat) : Int)) (by omega) (by omega), wrap64 (x := (_ : Int) + ((s[n + 1 + j].toNat - 48 : Nat) : Int)) (by omega) (by omega), inc64 (n := n + 1 + j) (by omega), inc64 (n := n + j) (by omega),
                  show min (n + (j + 1)) 15 = n + j + 1 by omega, show min (j + 1) (15 - n) = j + 1 by omega, val_take _ _ hdl, hdv]
                refine congrArg (fun x => [AV.int .i64 ((n + j + 1 : Nat) : Int), AV.int .i64 ((n + 1 + j + 1 : Nat) : Int), _, AV.int .i64 x]) ?_
                omega
              · have f3 : 15 ≤ n + j := by simp only [decide_eq_false_iff_not] at f3; omega
                refine VOK_lt (run_add ..) rfl (VOK_lt (run_add ..) rfl (VOK_again rfl ⟨j + 1, ⟨hlt, ?_⟩, ?_, by omega⟩))
                · rw [show n + 1 + (j + 1) = n + 1 + j + 1 by omega]; omega
                rw [inc64 (n := n + 1 + j) (by omega), inc64 (n := n + j) (by omega), show min (n + (j + 1)) 15 = min (n + j) 15 by omega, show min (j + 1) (15 - n) = min j (15 - n) by omega]
                rfl
            · rw [f2] at hsj
              have hjb' : j = b := by
                have : span isD (s.drop (n + 1 + j)) = 0 := hsj
                omega
              subst hjb'
              unfold fin24 z24
              refine VOK_lt (run_gtr ..) rfl (VOK_ite rfl (fun g1 => VOK_done ?_) (fun g1 => ?_))
              · have g1 : 15 < n + j := by simp only [decide_eq_true_eq] at g1; omega
                have : numS s = none := by unfold numS; rw [← hn0, hb, if_pos (by omega)]
                rw [this]; rfl
              have g1 : n + j ≤ 15 := by simp only [decide_eq_false_iff_not] at g1; omega
              have hres : numS s = some (realS s j) := by unfold numS; rw [← hn0, hb, if_neg (by omega), if_pos hb0]
              rw [show min j (15 - n) = j by omega, show min (n + j) 15 = n + j by omega]
              refine VOK_lt (run_conv_if Try.underlying2 Try.underlying31 _) rfl (VOK_lt (run_quo 31 false false _ (by omega)) rfl (VOK_done ?_))
              rw [hres]
              unfold realS
              rw [← hn0]
              have : (digs s n j).take (n + j) = digs s n j := List.take_of_length_le (by rw [digs_len s n j (by omega)]; exact Nat.le_refl _)
              rw [this]; rfl
          · have f1 : ¬ n + 1 + j < s.length := by simp only [decide_eq_false_iff_not] at f1; omega
            have hjb' : j = b := by
              rw [List.drop_eq_nil_of_le (by omega)] at hjs
              have : b = j + 0 := hjs
              omega
            subst hjb'
            unfold fin24 z24
            refine VOK_lt (run_gtr ..) rfl (VOK_ite rfl (fun g1 => VOK_done ?_) (fun g1 => ?_))
            · have g1 : 15 < n + j := by simp only [decide_eq_true_eq] at g1; omega
              have : numS s = none := by unfold numS; rw [← hn0, hb, if_pos (by omega)]
              rw [this]; rfl
            have g1 : n + j ≤ 15 := by simp only [decide_eq_false_iff_not] at g1; omega
            have hres : numS s = some (realS s j) := by unfold numS; rw [← hn0, hb, if_neg (by omega), if_pos hb0]
            rw [show min j (15 - n) = j by omega, show min (n + j) 15 = n + j by omega]
            refine VOK_lt (run_conv_if Try.underlying2 Try.underlying31 _) rfl (VOK_lt (run_quo 31 false false _ (by omega)) rfl (VOK_done ?_))
            rw [hres]
            unfold realS
            rw [← hn0]
            have : (digs s n j).take (n + j) = digs s n j := List.take_of_length_le (by rw [digs_len s n j (by omega)]; exact Nat.le_refl _)
            rw [this]; rfl
        · have hb : behind (s.drop n) = 0 := by rw [hba, hsp, e3]; rfl
          unfold ms24 z24 n24
          refine VOK_lt (run_gtr ..) rfl (VOK_ite rfl (fun g1 => VOK_done ?_) (fun g1 => ?_))
          · have g1 : 15 < n := by simp only [decide_eq_true_eq] at g1; omega
            have : numS s = none := by unfold numS; rw [← hn0, if_pos (by omega)]
            rw [this]; rfl
          have g1 : n ≤ 15 := by simp only [decide_eq_false_iff_not] at g1; omega
          have hms : numS s = some (msS s) := by unfold numS; rw [← hn0, hb, if_neg (by omega), if_neg (by omega)]
          have hv : val (s.take (min n 15)) = val (s.take n) := by rw [Nat.min_eq_left g1]
          have no : isMs (s.drop n) = false → refRes (numS s) = .tup [w2 (.int .i64 (val (s.take (min n 15)) : Int)), .int .i64 (n : Int)] := fun h => by
            rw [hms, hv]; unfold msS; rw [← hn0, h]; rfl
          have yes : isMs (s.drop n) = true → refRes (numS s) = .tup [w4 (.int .i64 (val (s.take (min n 15)) : Int)), .int .i64 ((n + 2 : Nat) : Int)] := fun h => by
            rw [hms, hv]; unfold msS; rw [← hn0, h]; rfl
          refine VOK_lt (run_add ..) rfl ?_
          rw [inc64 (by omega)]
          refine VOK_lt (run_len_str str9 s) rfl (VOK_lt (run_lss ..) rfl (VOK_ite rfl (fun g2 => ?_) (fun g2 => VOK_done ?_)))
          · have g2 : n + 1 < s.length := by simp only [decide_eq_true_eq] at g2; omega
            have hat := isMs_at s n g2
            refine VOK_lt (run_idx_str str9 s .i64 n (by omega)) rfl (VOK_lt (at_eq (n := n) (by omega) 109 109 rfl ..) rfl (VOK_ite rfl (fun g3 => ?_) (fun g3 => VOK_done ?_)))
            · refine VOK_lt (run_add ..) rfl ?_
              rw [inc64 (by omega)]
              refine VOK_lt (run_idx_str str9 s .i64 (n + 1) g2) rfl (VOK_lt (at_eq g2 115 115 rfl ..) rfl (VOK_ite rfl (fun g4 => ?_) (fun g4 => VOK_done ?_)))
              · refine VOK_lt (run_add ..) rfl ?_
                rw [add2 (by omega)]
                rw [g3, g4] at hat
                refine VOK_lt (run_len_str str9 s) rfl (VOK_lt (run_eql ..) rfl (VOK_ite rfl (fun g5 => VOK_lt (run_add ..) rfl (VOK_done ?_)) (fun g5 => ?_)))
                · have g5 : n + 2 = s.length := by simp only [decide_eq_true_eq] at g5; omega
                  rw [add2 (by omega)]
                  refine (yes ?_).symm
                  rw [hat, dif_neg (by omega)]; rfl
                · have g5 : n + 2 < s.length := by simp only [decide_eq_false_iff_not] at g5; omega
                  rw [dif_pos g5] at hat
                  refine VOK_lt (run_add ..) rfl ?_
                  rw [add2 (by omega)]
                  refine VOK_lt (run_idx_str str9 s .i64 (n + 2) g5) rfl (VOK_call (p22 _) rfl rfl (VOK_lt (run_not ..) rfl (VOK_ite rfl (fun g6 => ?_) (fun g6 => VOK_done ?_))))
                  · refine VOK_lt (run_add ..) rfl ?_
                    rw [add2 (by omega)]
                    refine VOK_lt (run_idx_str str9 s .i64 (n + 2) g5) rfl (VOK_call (p23 _) rfl rfl (VOK_lt (run_not ..) rfl (VOK_ite rfl (fun g7 => VOK_lt (run_add ..) rfl (VOK_done ?_)) (fun g7 => VOK_done ?_))))
                    · rw [add2 (by omega)]
                      refine (yes ?_).symm
                      rw [hat]; unfold isLD
                      rw [Bool.not_eq_true'] at g6 g7
                      rw [g6, g7]; rfl
                    · refine (no ?_).symm
                      rw [hat]; unfold isLD
                      rw [Bool.not_eq_false'] at g7
                      rw [g7]; simp
                  · refine (no ?_).symm
                    rw [hat]; unfold isLD
                    rw [Bool.not_eq_false'] at g6
                    rw [g6]; simp
              · refine (no ?_).symm
                rw [hat, g4]; simp
            · refine (no ?_).symm
              rw [hat, g3]; simp
          · have g2 : ¬ n + 1 < s.length := by simp only [decide_eq_false_iff_not] at g2; omega
            exact (no (isMs_short s n g2)).symm
      · have hb : behind (s.drop n) = 0 := by rw [hba, if_neg (of_decide_eq_false e2)]
        unfold ms24 z24 n24
        refine VOK_lt (run_gtr ..) rfl (VOK_ite rfl (fun g1 => VOK_done ?_) (fun g1 => ?_))
        · have g1 : 15 < n := by simp only [decide_eq_true_eq] at g1; omega
          have : numS s = none := by unfold numS; rw [← hn0, if_pos (by omega)]
          rw [this]; rfl
        have g1 : n ≤ 15 := by simp only [decide_eq_false_iff_not] at g1; omega
        have hms : numS s = some (msS s) := by unfold numS; rw [← hn0, hb, if_neg (by omega), if_neg (by omega)]
        have hv : val (s.take (min n 15)) = val (s.take n) := by rw [Nat.min_eq_left g1]
        have no : isMs (s.drop n) = false → refRes (numS s) = .tup [w2 (.int .i64 (val (s.take (min n 15)) : Int)), .int .i64 (n : Int)] := fun h => by
          rw [hms, hv]; unfold msS; rw [← hn0, h]; rfl
        have yes : isMs (s.drop n) = true → refRes (numS s) = .tup [w4 (.int .i64 (val (s.take (min n 15)) : Int)), .int .i64 ((n + 2 : Nat) : Int)] := fun h => by
          rw [hms, hv]; unfold msS; rw [← hn0, h]; rfl
        refine VOK_lt (run_add ..) rfl ?_
        rw [inc64 (by omega)]
        refine VOK_lt (run_len_str str9 s) rfl (VOK_lt (run_lss ..) rfl (VOK_ite rfl (fun g2 => ?_) (fun g2 => VOK_done ?_)))
        · have g2 : n + 1 < s.length := by simp only [decide_eq_true_eq] at g2; omega
          have hat := isMs_at s n g2
          refine VOK_lt (run_idx_str str9 s .i64 n (by omega)) rfl (VOK_lt (at_eq (n := n) (by omega) 109 109 rfl ..) rfl (VOK_ite rfl (fun g3 => ?_) (fun g3 => VOK_done ?_)))
          · refine VOK_lt (run_add ..) rfl ?_
            rw [inc64 (by omega)]
            refine VOK_lt (run_idx_str str9 s .i64 (n + 1) g2) rfl (VOK_lt (at_eq g2 115 115 rfl ..) rfl (VOK_ite rfl (fun g4 => ?_) (fun g4 => VOK_done ?_)))
            · refine VOK_lt (run_add ..) rfl ?_
              rw [add2 (by omega)]
              rw [g3, g4] at hat
              refine VOK_lt (run_len_str str9 s) rfl (VOK_lt (run_eql ..) rfl (VOK_ite rfl (fun g5 => VOK_lt (run_add ..) rfl (VOK_done ?_)) (fun g5 => ?_)))
              · have g5 : n + 2 = s.length := by simp only [decide_eq_true_eq] at g5; omega
                rw [add2 (by omega)]
                refine (yes ?_).symm
                rw [hat, dif_neg (by omega)]; rfl
              · have g5 : n + 2 < s.length := by simp only [decide_eq_false_iff_not] at g5; omega
                rw [dif_pos g5] at hat
                refine VOK_lt (run_add ..) rfl ?_
                rw [add2 (by omega)]
                refine VOK_lt (run_idx_str str9 s .i64 (n + 2) g5) rfl (VOK_call (p22 _) rfl rfl (VOK_lt (run_not ..) rfl (VOK_ite rfl (fun g6 => ?_) (fun g6 => VOK_done ?_))))
                · refine VOK_lt (run_add ..) rfl ?_
                  rw [add2 (by omega)]
                  refine VOK_lt (run_idx_str str9 s .i64 (n + 2) g5) rfl (VOK_call (p23 _) rfl rfl (VOK_lt (run_not ..) rfl (VOK_ite rfl (fun g7 => VOK_lt (run_add ..) rfl (VOK_done ?_)) (fun g7 => VOK_done ?_))))
                  · rw [add2 (by omega)]
                    refine (yes ?_).symm
                    rw [hat]; unfold isLD
                    rw [Bool.not_eq_true'] at g6 g7
                    rw [g6, g7]; rfl
                  · refine (no ?_).symm
                    rw [hat]; unfold isLD
                    rw [Bool.not_eq_false'] at g7
                    rw [g7]; simp
                · refine (no ?_).symm
                  rw [hat]; unfold isLD
                  rw [Bool.not_eq_false'] at g6
                  rw [g6]; simp
            · refine (no ?_).symm
              rw [hat, g4]; simp
          · refine (no ?_).symm
            rw [hat, g3]; simp
        · have g2 : ¬ n + 1 < s.length := by simp only [decide_eq_false_iff_not] at g2; omega
          exact (no (isMs_short s n g2)).symm
    · have e1 : ¬ n + 1 < s.length := by simp only [decide_eq_false_iff_not] at e1; omega
      have hb := behind_short s n e1
      unfold ms24 z24 n24
      refine VOK_lt (run_gtr ..) rfl (VOK_ite rfl (fun g1 => VOK_done ?_) (fun g1 => ?_))
      · have g1 : 15 < n := by simp only [decide_eq_true_eq] at g1; omega
        have : numS s = none := by unfold numS; rw [← hn0, if_pos (by omega)]
        rw [this]; rfl
      have g1 : n ≤ 15 := by simp only [decide_eq_false_iff_not] at g1; omega
      have hms : numS s = some (msS s) := by unfold numS; rw [← hn0, hb, if_neg (by omega), if_neg (by omega)]
      have hv : val (s.take (min n 15)) = val (s.take n) := by rw [Nat.min_eq_left g1]
      have no : isMs (s.drop n) = false → refRes (numS s) = .tup [w2 (.int .i64 (val (s.take (min n 15)) : Int)), .int .i64 (n : Int)] := fun h => by
        rw [hms, hv]; unfold msS; rw [← hn0, h]; rfl
      have yes : isMs (s.drop n) = true → refRes (numS s) = .tup [w4 (.int .i64 (val (s.take (min n 15)) : Int)), .int .i64 ((n + 2 : Nat) : Int)] := fun h => by
        rw [hms, hv]; unfold msS; rw [← hn0, h]; rfl
      refine VOK_lt (run_add ..) rfl ?_
      rw [inc64 (by omega)]
      refine VOK_lt (run_len_str str9 s) rfl (VOK_lt (run_lss ..) rfl (VOK_ite rfl (fun g2 => ?_) (fun g2 => VOK_done ?_)))
      · have g2 : n + 1 < s.length := by simp only [decide_eq_true_eq] at g2; omega
        have hat := isMs_at s n g2
        refine VOK_lt (run_idx_str str9 s .i64 n (by omega)) rfl (VOK_lt (at_eq (n := n) (by omega) 109 109 rfl ..) rfl (VOK_ite rfl (fun g3 => ?_) (fun g3 => VOK_done ?_)))
        · refine VOK_lt (run_add ..) rfl ?_
          rw [inc64 (by omega)]
          refine VOK_lt (run_idx_str str9 s .i64 (n + 1) g2) rfl (VOK_lt (at_eq g2 115 115 rfl ..) rfl (VOK_ite rfl (fun g4 => ?_) (fun g4 => VOK_done ?_)))
          · refine VOK_lt (run_add ..) rfl ?_
            rw [add2 (by omega)]
            rw [g3, g4] at hat
            refine VOK_lt (run_len_str str9 s) rfl (VOK_lt (run_eql ..) rfl (VOK_ite rfl (fun g5 => VOK_lt (run_add ..) rfl (VOK_done ?_)) (fun g5 => ?_)))
            · have g5 : n + 2 = s.length := by simp only [decide_eq_true_eq] at g5; omega
              rw [add2 (by omega)]
              refine (yes ?_).symm
              rw [hat, dif_neg (by omega)]; rfl
            · have g5 : n + 2 < s.length := by simp only [decide_eq_false_iff_not] at g5; omega
              rw [dif_pos g5] at hat
              refine VOK_lt (run_add ..) rfl ?_
              rw [add2 (by omega)]
              refine VOK_lt (run_idx_str str9 s .i64 (n + 2) g5) rfl (VOK_call (p22 _) rfl rfl (VOK_lt (run_not ..) rfl (VOK_ite rfl (fun g6 => ?_) (fun g6 => VOK_done ?_))))
              · refine VOK_lt (run_add ..) rfl ?_
                rw [add2 (by omega)]
                refine VOK_lt (run_idx_str str9 s .i64 (n + 2) g5) rfl (VOK_call (p23 _) rfl rfl (VOK_lt (run_not ..) rfl (VOK_ite rfl (fun g7 => VOK_lt (run_add ..) rfl (VOK_done ?_)) (fun g7 => VOK_done ?_))))
                · rw [add2 (by omega)]
                  refine (yes ?_).symm
                  rw [hat]; unfold isLD
                  rw [Bool.not_eq_true'] at g6 g7
                  rw [g6, g7]; rfl
                · refine (no ?_).symm
                  rw [hat]; unfold isLD
                  rw [Bool.not_eq_false'] at g7
                  rw [g7]; simp
              · refine (no ?_).symm
                rw [hat]; unfold isLD
                rw [Bool.not_eq_false'] at g6
                rw [g6]; simp
          · refine (no ?_).symm
            rw [hat, g4]; simp
        · refine (no ?_).symm
          rw [hat, g3]; simp
      · have g2 : ¬ n + 1 < s.length := by simp only [decide_eq_false_iff_not] at g2; omega
        exact (no (isMs_short s n g2)).symm
end Go.Proofs.Ytmhcemkembijeaa.vars
/-
  The word that a text begins with, by the document.
-/
set_option maxRecDepth 100000
set_option linter.unusedVariables false
set_option linter.unusedSimpArgs false
namespace Go.Proofs.Ytmhcemkembijeaa.vars
open Go Go.Sx
def twoT : AV := .vsl 4 1 [.str [58, 61], .str [60, 62], .str [60, 61], .str [62, 61]]
def name12 : VT :=
  (.loop 67 0 [.int .i64 0]
   (.cons 1
   (.lt (.len 9) [.sym 64] 68 none
   (.lt (.bin .lss 3 false false) [.sym 67, .sym 68] 69 none
   (.ite 69
    (.lt (.idx 9) [.sym 64, .sym 67] 70 none
    (.call 22 [.sym 70] 71 [none]
    (.ite 71
     (.lt (.bin .add 3 false true) [.sym 67, .int .i64 1] 72 none
     (.again 0 0 [.sym 72]))
     (.lt (.idx 9) [.sym 64, .sym 67] 72 none
     (.call 23 [.sym 72] 73 [none]
     (.ite 73
      (.lt (.bin .add 3 false true) [.sym 67, .int .i64 1] 74 none
      (.again 0 0 [.sym 74]))
      (.lt (.slc 9 false true) [.sym 64, .sym 67] 74 none
      (.done (.tup [.agg [.int .i64 1, .sym 74, .int .i64 0, .flt .f64 0, .int .i64 0], .sym 67])))))))))
    (.lt (.slc 9 false true) [.sym 64, .sym 67] 70 none
    (.done (.tup [.agg [.int .i64 1, .sym 70, .int .i64 0, .flt .f64 0, .int .i64 0], .sym 67]))))))
   .nil))
def one12 : VT :=
     (.loop 73 0 [.int .i64 0]
      (.cons 1
      (.lt (.bin .lss 3 false false) [.sym 73, .int .i64 15] 74 none
      (.ite 74
       (.lt (.idx 9) [.str marksT, .sym 73] 75 none
       (.lt (.idx 9) [.sym 64, .int .i64 0] 76 none
       (.lt (.bin .eql 5 false false) [.sym 75, .sym 76] 77 none
       (.ite 77
        (.lt (.slc 9 false true) [.sym 64, .int .i64 1] 78 none
        (.done (.tup [.agg [.int .i64 5, .sym 78, .int .i64 0, .flt .f64 0, .int .i64 0], .int .i64 1])))
        (.lt (.bin .add 3 false true) [.sym 73, .int .i64 1] 78 none
        (.again 1 0 [.sym 78]))))))
       (.done (.tup [.agg [.int .i64 0, .str [], .int .i64 0, .flt .f64 0, .int .i64 0], .int .i64 0]))))
      .nil))
def mark12 : VT :=
   (.loop 69 0 [.int .i64 0, twoT]
    (.cons 2
    (.lt (.len 24) [.sym 70] 71 none
    (.lt (.bin .lss 3 false false) [.sym 69, .sym 71] 72 none
    (.ite 72
     (.lt (.len 9) [.sym 64] 73 none
     (.lt (.bin .gtr 3 false true) [.sym 73, .int .i64 1] 74 none
     (.ite 74
      (.lt (.slc 9 false true) [.sym 64, .int .i64 2] 75 none
      (.lt (.iaddr 24) [.sym 70, .sym 69] 76 none
      (.lt (.load 9) [.sym 76] 77 none
      (.lt (.bin .eql 9 false false) [.sym 75, .sym 77] 78 none
      (.ite 78
       (.lt (.iaddr 24) [.sym 70, .sym 69] 79 none
       (.lt (.load 9) [.sym 79] 80 none
       (.done (.tup [.agg [.int .i64 5, .sym 80, .int .i64 0, .flt .f64 0, .int .i64 0], .int .i64 2]))))
       (.lt (.bin .add 3 false true) [.sym 69, .int .i64 1] 79 none
       (.again 0 0 [.sym 79, .sym 70])))))))
      (.lt (.bin .add 3 false true) [.sym 69, .int .i64 1] 75 none
      (.again 0 0 [.sym 75, .sym 70])))))
     one12)))
    .nil))
def c12 : VC := ⟨⟨[], []⟩, [(22, [none]), (23, [none]), (24, [(some 5), none])], [(0, [⟨[(4, .slx 0 0 0), (0, .sym 64), (2, .ptr 0 0)], [(0, [.int .i64 0, .str [], .int .i64 0, .flt .f64 0, .int .i64 0])], 1, 1, [], []⟩]), (2, [⟨[(2, .ptr 0 0), (6, .slx 0 0 0), (5, .slx 1 0 0), (0, .sym 64)], [(0, [.int .i64 0, .str [], .int .i64 0, .flt .f64 0, .int .i64 0])], 1, 2, [], []⟩]), (4, [⟨[(2, .ptr 0 0), (0, .sym 64), (8, .slx 0 0 0), (7, .str [59, 58, 44, 40, 41, 91, 93, 43, 45, 42, 47, 61, 60, 62, 46])], [(0, [.int .i64 0, .str [], .int .i64 0, .flt .f64 0, .int .i64 0])], 1, 1, [], []⟩])]⟩
def t12 : VT :=
 (.lt (.idx 9) [.sym 64, .int .i64 0] 65 none
 (.call 22 [.sym 65] 66 [none]
 (.ite 66
  name12
  (.lt (.idx 9) [.sym 64, .int .i64 0] 67 none
  (.call 23 [.sym 67] 68 [none]
  (.ite 68
   (.call 24 [.sym 64] 69 [(some 5), none]
   (.done (.tup [.agg [.sym 69, .sym 70, .sym 71, .sym 72, .sym 73], .sym 74])))
   mark12))))))
def two (i : Nat) : List UInt8 := match i with
  | 0 => [58, 61]
  | 1 => [60, 62]
  | 2 => [60, 61]
  | _ => [62, 61]
theorem pair_two (a b : UInt8) : isPair a b = true ↔ ∃ i, i < 4 ∧ [a, b] = two i := by
  unfold isPair
  simp only [Bool.or_eq_true, decide_eq_true_eq]
  constructor
  · rintro ((⟨rfl, rfl⟩ | ⟨rfl, rfl⟩) | (⟨rfl, rfl⟩ | ⟨rfl, rfl⟩))
    · exact ⟨0, by omega, rfl⟩
    · exact ⟨1, by omega, rfl⟩
    · exact ⟨2, by omega, rfl⟩
    · exact ⟨3, by omega, rfl⟩
  · rintro ⟨i, hi, h⟩
    rcases (by omega : i = 0 ∨ i = 1 ∨ i = 2 ∨ i = 3) with rfl | rfl | rfl | rfl <;> (simp only [two, List.cons.injEq, and_true] at h; simp [h])
theorem iaddr_two (i : Nat) (h : i < 4) : (XOp.iaddr 24).run Try.prog [twoT, .int .i64 (i : Int)] = some (.vptr ([AV.str [58, 61], .str [60, 62], .str [60, 61], .str [62, 61]].drop i)) := by
  rcases (by omega : i = 0 ∨ i = 1 ∨ i = 2 ∨ i = 3) with rfl | rfl | rfl | rfl <;> kernel_rfl
theorem load_two (i : Nat) (h : i < 4) : (XOp.load 9).run Try.prog [.vptr ([AV.str [58, 61], .str [60, 62], .str [60, 61], .str [62, 61]].drop i)] = some (.str (two i)) := by
  rcases (by omega : i = 0 ∨ i = 1 ∨ i = 2 ∨ i = 3) with rfl | rfl | rfl | rfl <;> kernel_rfl
theorem len_two : (XOp.len 24).run Try.prog [twoT] = some (.int .i64 4) := by kernel_rfl
theorem ok_two (i : Nat) : okC (.vptr ([AV.str [58, 61], .str [60, 62], .str [60, 61], .str [62, 61]].drop i)) = true := by
  rcases i with _ | _ | _ | _ | i <;> first | rfl | (rw [List.drop_eq_nil_of_le (by simp)]; rfl)
theorem mark_two (a b : UInt8) (t : List UInt8) (i : Nat) (h : i < 4) (he : [a, b] = two i) : markS (a :: b :: t) = two i := by
  have : isPair a b = true := (pair_two a b).2 ⟨i, h, he⟩
  simp only [markS, this, reduceIte, he]
theorem two_len (i : Nat) : (two i).length = 2 := by
  unfold two; split <;> rfl
theorem p12 (a : UInt8) (r : List UInt8) (hs : (a :: r).length < 4294967281) : Pure Try.prog 12 [.str (a :: r)] (refRes (oneS (a :: r))) := by
  refine pure_shape (sh := [none]) (ls := [.str (a :: r)]) (c := c12) (n := 300) (t := t12) mo ov rfl rfl (refRes_ref _) (fun Y _ => known0 _) rfl (by kernel_rfl) fun Y hf hg => ?_
  unfold t12
  have h0 : 0 < (a :: r).length := by simp
  have h1 : 1 ≤ (a :: r).length := by simp
  refine VOK_lt (run_idx_str str9 (a :: r) .i64 0 h0) rfl (VOK_call (p22 a) rfl rfl (VOK_ite rfl (fun hL => ?_) (fun hL => ?_)))
  · have e : refRes (oneS (a :: r)) = .tup [.agg (encW ⟨1, (a :: r).take (span isLD (a :: r)), 0, 0, 0⟩), .int .i64 (span isLD (a :: r) : Int)] := by
      unfold oneS
      simp only [hL, reduceIte]; rfl
    rw [e]
    clear e
    generalize a :: r = s at *
    unfold name12
    refine VOK_loop (ι := Nat) (fun n => [.int .i64 (n : Int)]) (fun n => n ≤ s.length ∧ span isLD s = n + span isLD (s.drop n)) (fun n => s.length - n) 0 ⟨Nat.zero_le _, by simp⟩ rfl (fun _ _ => rfl) (fun i j _ _ h => ?_) (fun n hn => ?_)
    · simp at h; have h : i = j := by omega
      rw [h]
    obtain ⟨hn, hc⟩ := hn
    refine VOK_lt (run_len_str str9 s) rfl (VOK_lt (run_lss ..) rfl (VOK_ite rfl (fun hlt => ?_) (fun hlt => ?_)))
    · have hlt : n < s.length := by simp only [decide_eq_true_eq] at hlt; omega
      have hx := span_at isLD s n hlt
      have hyes : isLD s[n] = true → span isLD s = n + 1 + span isLD (s.drop (n + 1)) := fun h => by rw [hc, hx, h]; simp; omega
      refine VOK_lt (run_idx_str str9 s .i64 n hlt) rfl (VOK_call (p22 _) rfl rfl (VOK_ite rfl (fun h => VOK_lt (run_add ..) rfl (VOK_again rfl ⟨n + 1, ⟨hlt, hyes (by unfold isLD; rw [h]; rfl)⟩, congrArg (fun x => [AV.int .i64 x]) (inc64 (by omega)), by omega⟩)) (fun h => ?_)))
      refine VOK_lt (run_idx_str str9 s .i64 n hlt) rfl (VOK_call (p23 _) rfl rfl (VOK_ite rfl (fun h' => VOK_lt (run_add ..) rfl (VOK_again rfl ⟨n + 1, ⟨hlt, hyes (by unfold isLD; rw [h, h']; rfl)⟩, congrArg (fun x => [AV.int .i64 x]) (inc64 (by omega)), by omega⟩)) (fun h' => ?_)))
      have hno : isLD s[n] = false := by unfold isLD; rw [h, h']; rfl
      rw [hno] at hx
      have hx : span isLD (s.drop n) = 0 := hx
      refine VOK_lt (run_slc01_str str9 s .i64 n hn) rfl (VOK_done ?_)
      rw [hc, hx]; rfl
    · have hlt : ¬ n < s.length := by simp only [decide_eq_false_iff_not] at hlt; omega
      refine VOK_lt (run_slc01_str str9 s .i64 n hn) rfl (VOK_done ?_)
      rw [hc, List.drop_eq_nil_of_le (by omega)]; rfl
  · refine VOK_lt (run_idx_str str9 (a :: r) .i64 0 h0) rfl (VOK_call (p23 a) rfl rfl (VOK_ite rfl (fun hD => ?_) (fun hD => ?_)))
    · have e : oneS (a :: r) = numS (a :: r) := by unfold oneS; simp only [hL, hD, Bool.false_eq_true, reduceIte]
      have h24 := p24 (a :: r) (by omega)
      rw [e]
      rcases h : numS (a :: r) with _ | ⟨w, n⟩
      · rw [h] at h24
        exact VOK_call h24 rfl rfl (VOK_done rfl)
      · rw [h] at h24
        exact VOK_call h24 rfl rfl (VOK_done rfl)
    · have e : refRes (oneS (a :: r)) = if markS (a :: r) = [] then refRes none else .tup [.agg (encW ⟨5, markS (a :: r), 0, 0, 0⟩), .int .i64 ((markS (a :: r)).length : Int)] := by
        unfold oneS
        simp only [hL, hD, Bool.false_eq_true, reduceIte]
        split <;> rfl
      rw [e]
      clear e
      unfold mark12
      refine VOK_loop (ι := Nat) (fun i => [.int .i64 (i : Int), twoT]) (fun i => i ≤ 4 ∧ ∀ b t, r = b :: t → ∀ k, k < i → [a, b] ≠ two k) (fun i => 4 - i) 0 ⟨Nat.zero_le _, fun _ _ _ k hk => by omega⟩ rfl (fun _ _ => rfl) (fun i j _ _ h => ?_) (fun i hi => ?_)
      · simp at h; have h : i = j := by omega
        rw [h]
      obtain ⟨hi4, hno⟩ := hi
      refine VOK_lt len_two rfl (VOK_lt (run_lss ..) rfl (VOK_ite rfl (fun hlt => ?_) (fun hlt => ?_)))
      · have hlt : i < 4 := by simp only [decide_eq_true_eq] at hlt; omega
        refine VOK_lt (run_len_str str9 _) rfl (VOK_lt (run_gtr ..) rfl (VOK_ite rfl (fun hl => ?_) (fun hl => ?_)))
        · obtain ⟨b, t, rfl⟩ : ∃ b t, r = b :: t := by
            cases r with
            | nil => simp at hl
            | cons b t => exact ⟨b, t, rfl⟩
          refine VOK_lt (run_slc01_str str9 (a :: b :: t) .i64 2 (by simp)) rfl (VOK_lt (iaddr_two i hlt) (ok_two i) (VOK_lt (load_two i hlt) rfl (VOK_lt (run_eqs ..) rfl (VOK_ite rfl (fun he => ?_) (fun he => ?_)))))
          · have he : [a, b] = two i := of_decide_eq_true he
            have hm := mark_two a b t i hlt he
            refine VOK_lt (iaddr_two i hlt) (ok_two i) (VOK_lt (load_two i hlt) rfl (VOK_done ?_))
            rw [hm, if_neg (fun h => by have := two_len i; rw [h] at this; cases this), two_len]; rfl
          · have he : ¬ [a, b] = two i := of_decide_eq_false he
            refine VOK_lt (run_add ..) rfl (VOK_again rfl ⟨i + 1, ⟨hlt, fun b' t' hbt k hk => ?_⟩, congrArg (fun x => [AV.int .i64 x, _]) (inc64 (by omega)), by omega⟩)
            cases hbt
            rcases Nat.lt_or_ge k i with h | h
            · exact hno b t rfl k h
            · obtain rfl : k = i := by omega
              exact he
        · have hr : r = [] := by
            cases r with
            | nil => rfl
            | cons b t => simp at hl; omega
          refine VOK_lt (run_add ..) rfl (VOK_again rfl ⟨i + 1, ⟨hlt, fun b' t' hbt => by rw [hr] at hbt; cases hbt⟩, congrArg (fun x => [AV.int .i64 x, _]) (inc64 (by omega)), by omega⟩)
      · have hi4 : i = 4 := by simp only [decide_eq_false_iff_not] at hlt; omega
        subst hi4
        have hm := mark_one a r fun b t hbt => by
          rw [← Bool.not_eq_true, pair_two]
          rintro ⟨k, hk, he⟩
          exact hno b t hbt k hk he
        rw [hm]
        unfold one12
        refine VOK_loop (ι := Nat) (fun k => [.int .i64 (k : Int)]) (fun k => k ≤ 15 ∧ ∀ j (h : j < marksT.length), j < k → marksT[j] ≠ a) (fun k => 15 - k) 0 ⟨Nat.zero_le _, fun _ _ h => by omega⟩ rfl (fun _ _ => rfl) (fun i j _ _ h => ?_) (fun k hk => ?_)
        · simp at h; have h : i = j := by omega
          rw [h]
        obtain ⟨hk15, hk⟩ := hk
        have hml : marksT.length = 15 := rfl
        refine VOK_lt (run_lss ..) rfl (VOK_ite rfl (fun hlt => ?_) (fun hlt => VOK_done ?_))
        · have hlt : k < 15 := by simp only [decide_eq_true_eq] at hlt; omega
          refine VOK_lt (run_idx_str str9 marksT .i64 k hlt) rfl (VOK_lt (run_idx_str str9 (a :: r) .i64 0 h0) rfl (VOK_lt (r := .bool (decide (marksT[k] = a))) ?_ rfl (VOK_ite rfl (fun he => ?_) (fun he => ?_))))
          · rw [← int_u8]; exact run_eql ..
          · have he : marksT[k] = a := of_decide_eq_true he
            have him : isMark a = true := by
              unfold isMark
              rw [List.contains_iff_mem, ← he]
              exact List.getElem_mem _
            refine VOK_lt (run_slc01_str str9 (a :: r) .i64 1 h1) rfl (VOK_done ?_)
            rw [him]; rfl
          · have he : ¬ marksT[k] = a := of_decide_eq_false he
            refine VOK_lt (run_add ..) rfl (VOK_again rfl ⟨k + 1, ⟨hlt, fun j hj hjk => ?_⟩, congrArg (fun x => [AV.int .i64 x]) (inc64 (by omega)), by omega⟩)
            rcases Nat.lt_or_ge j k with h | h
            · exact hk j hj h
            · obtain rfl : j = k := by omega
              exact he
        · have hk15 : k = 15 := by simp only [decide_eq_false_iff_not] at hlt; omega
          subst hk15
          have him : isMark a = false := by
            unfold isMark
            rw [← Bool.not_eq_true, List.contains_iff_mem]
            intro h
            obtain ⟨j, hj, hja⟩ := List.getElem_of_mem h
            exact hk j hj hj hja
          rw [him]; rfl
end Go.Proofs.Ytmhcemkembijeaa.vars
/-
  All words of a text, by the program and by the document.
-/
set_option maxRecDepth 100000
set_option linter.unusedVariables false
set_option linter.unusedSimpArgs false
namespace Go.Proofs.Ytmhcemkembijeaa.vars
open Go Go.Sx
theorem lenW (w : GWord) : (encW w).length = 5 := rfl
theorem okW (w : GWord) : okL (encW w) = true := rfl
abbrev wds (l : List GWord) : AV := sliceOf encW 5 l
theorem okC1 {a : AV} (h : okC a = true) : okL [a] = true := by simp only [okL, h]
theorem okIC {k : IntKind} {n : Int} {a : AV} (h : okC a = true) : okL [.int k n, a] = true := by
  show (match okC a with | true => true | false => false) = true
  rw [h]
theorem okWds (l : List GWord) : okC (wds l) = true := sliceOf_ok okW l
/-! ### how long a word is -/
theorem isMs_len {r : List UInt8} (h : isMs r = true) : 2 ≤ r.length := by
  rcases r with _ | ⟨a, _ | ⟨b, t⟩⟩
  · cases h
  · cases h
  · simp
theorem behind_len (r : List UInt8) : 0 < behind r → behind r + 1 ≤ r.length := by
  intro h
  rcases r with _ | ⟨c, r⟩
  · simp [behind] at h
  · simp only [behind] at h ⊢
    split at h
    · rename_i e
      rw [if_pos e]
      have := span_le isD r
      simp; exact this
    · omega
theorem markS_len (s : List UInt8) : (markS s).length ≤ s.length := by
  rcases s with _ | ⟨a, _ | ⟨b, t⟩⟩
  · simp [markS]
  · simp only [markS]; split <;> simp
  · simp only [markS]
    split
    · simp
    · split <;> simp
theorem oneS_len (c : UInt8) (r : List UInt8) {w : GWord} {n : Nat} (h : oneS (c :: r) = some (w, n)) : 1 ≤ n ∧ n ≤ (c :: r).length := by
  unfold oneS at h
  simp only at h
  split at h
  · rename_i hL
    cases h
    refine ⟨?_, span_le _ _⟩
    unfold span
    rw [List.takeWhile_cons]
    have : isLD c = true := by unfold isLD; rw [hL]; rfl
    rw [this]; simp
  · split at h
    · rename_i hD
      have h1 : 1 ≤ span isD (c :: r) := by
        unfold span
        rw [List.takeWhile_cons, hD]; simp
      have h2 := span_le isD (c :: r)
      unfold numS at h
      split at h
      · cases h
      · split at h
        · rename_i hb
          cases h
          have := behind_len _ hb
          rw [List.length_drop] at this
          exact ⟨by omega, by omega⟩
        · have h := Option.some.inj h
          unfold msS at h
          split at h
          · rename_i hm
            have := isMs_len hm
            rw [List.length_drop] at this
            cases h
            exact ⟨by omega, by omega⟩
          · cases h
            exact ⟨h1, h2⟩
    · split at h
      · cases h
      · rename_i hm
        cases h
        exact ⟨List.length_pos_iff.2 hm, markS_len _⟩
/-! ### all of them -/
def wordsR : Nat → List UInt8 → Nat → List GWord → List GWord × Nat × Bool
  | 0, _, _, _ => ([], 0, false)
  | f + 1, s, p, l =>
    if s.length ≤ p + bl false (s.drop p) then (l, 0, true)
    else match oneS (s.drop (p + bl false (s.drop p))) with
      | none => ([], p + bl false (s.drop p), false)
      | some (w, n) => if 300 ≤ l.length then ([], p + bl false (s.drop p), false) else wordsR f s (p + bl false (s.drop p) + n) (l ++ [{ w with place := ((p + bl false (s.drop p) : Nat) : Int) }])
def wordsS (s : List UInt8) : List GWord × Nat × Bool := if 1200 < s.length then ([], 0, false) else wordsR (s.length + 1) s 0 []
def wordsRes (r : List GWord × Nat × Bool) : AV := .tup [wds r.1, .int .i64 (r.2.1 : Int), .bool r.2.2]
theorem wordsRes_ref (r : List GWord × Nat × Bool) : noRef (wordsRes r) = true := by
  have := okC_noRef (okWds r.1)
  simp only [wordsRes, noRef, noRefL, this]
theorem wordsR_skip (f : Nat) (s : List UInt8) (p q : Nat) (l : List GWord) (h : p + bl false (s.drop p) = q + bl false (s.drop q)) : wordsR f s p l = wordsR f s q l := by
  cases f with
  | zero => rfl
  | succ f => simp only [wordsR, h]
def c7 : VC := ⟨⟨[], []⟩, [(10, [none]), (11, [(some 5), none, none])], [(0, [⟨[(3, .slx 0 0 0), (2, .slx 0 5 1), (0, .sym 64)], [], 1, 2, [⟨0, 5, 1, 2, none⟩], []⟩])]⟩
def t7 : VT :=
 (.lt (.len 9) [.sym 64] 65 none
 (.lt (.bin .gtr 3 false true) [.sym 65, .int .i64 1200] 66 none
 (.ite 66
  (.done (.tup [.nsl, .int .i64 0, .bool false]))
  (.call 10 [.sym 64] 67 [none]
  (.loop 68 0 [.sym 67, .nsl]
   (.cons 2
   (.lt (.len 9) [.sym 64] 70 none
   (.lt (.bin .lss 3 false false) [.sym 68, .sym 70] 71 none
   (.ite 71
    (.lt (.slc 9 true false) [.sym 64, .sym 68] 72 none
    (.call 11 [.sym 72] 73 [(some 5), none, none]
    (.lt (.un .not) [.sym 79] 80 none
    (.ite 80
     (.done (.tup [.nsl, .sym 68, .bool false]))
     (.lt (.len 25) [.sym 69] 81 none
     (.lt (.bin .geq 3 false true) [.sym 81, .int .i64 300] 82 none
     (.ite 82
      (.done (.tup [.nsl, .sym 68, .bool false]))
      (.lt (.app 5 48) [.sym 69, .agg [.sym 73, .sym 74, .sym 75, .sym 76, .sym 68]] 83 none
      (.lt (.bin .add 3 false false) [.sym 68, .sym 78] 84 none
      (.lt (.slc 9 true false) [.sym 64, .sym 84] 85 none
      (.call 10 [.sym 85] 86 [none]
      (.lt (.bin .add 3 false false) [.sym 84, .sym 86] 87 none
      (.again 0 0 [.sym 87, .sym 83])))))))))))))
    (.done (.tup [.sym 69, .int .i64 0, .bool true])))))
   .nil))))))
theorem p7 (s : List UInt8) (hs : s.length < 9223372036854775000) : Pure Try.prog 7 [.str s] (wordsRes (wordsS s)) := by
  refine pure_shape (sh := [none]) (ls := [.str s]) (c := c7) (n := 300) (t := t7) mo ov rfl rfl (wordsRes_ref _) (fun Y _ => known0 _) rfl (by kernel_rfl) fun Y hf hg => ?_
  unfold t7
  refine VOK_lt (run_len_str str9 s) rfl (VOK_lt (run_gtr ..) rfl (VOK_ite rfl (fun hl => VOK_done ?_) (fun hl => ?_)))
  · have hl : 1200 < s.length := by simp only [decide_eq_true_eq] at hl; omega
    unfold wordsS
    rw [if_pos hl]; rfl
  have hl : ¬ 1200 < s.length := by simp only [decide_eq_false_iff_not] at hl; omega
  have hb0 := bl_le false s
  refine VOK_call (p10 s (by omega)) rfl rfl ?_
  refine VOK_loop (ι := Nat × List GWord) (fun x => [.int .i64 (x.1 : Int), wds x.2]) (fun x => x.1 ≤ s.length ∧ ∃ f q, x.1 = q + bl false (s.drop q) ∧ s.length < q + f ∧ wordsS s = wordsR f s q x.2) (fun x => s.length - x.1) (bl false s, [])
    ⟨hb0, s.length + 1, 0, by simp, by omega, by unfold wordsS; rw [if_neg hl]⟩ rfl (fun x _ => okIC (okWds x.2)) (fun x y _ _ h => ?_) (fun x hx => ?_)
  · simp at h; have h : x.1 = y.1 := by omega
    rw [h]
  obtain ⟨p, l⟩ := x
  obtain ⟨hp, f, q, hq, hf1, hw⟩ := hx
  simp only at hp hq hw ⊢
  obtain ⟨f, rfl⟩ : ∃ f', f = f' + 1 := by
    rcases f with _ | f
    · exfalso; have := bl_le false (s.drop q); rw [List.length_drop] at this; omega
    · exact ⟨f, rfl⟩
  simp only [wordsR, ← hq] at hw
  refine VOK_lt (run_len_str str9 s) rfl (VOK_lt (run_lss ..) rfl (VOK_ite rfl (fun hlt => ?_) (fun hlt => VOK_done ?_)))
  · have hlt : p < s.length := by simp only [decide_eq_true_eq] at hlt; omega
    rw [if_neg (by omega)] at hw
    have hd := List.drop_eq_getElem_cons hlt
    have h11 := p11 s[p] (s.drop (p + 1)) (by rw [← hd, List.length_drop]; omega)
    rw [← hd] at h11
    refine VOK_lt (run_slc10_str str9 s .i64 p hp) rfl ?_
    rcases ho : oneS (s.drop p) with _ | ⟨w, n⟩
    · rw [ho] at h11 hw
      refine VOK_call h11 rfl rfl (VOK_lt (run_not ..) rfl (VOK_ite rfl (fun _ => VOK_done ?_) (fun h => by cases h)))
      rw [hw]; rfl
    · rw [ho] at h11 hw
      have hn := oneS_len s[p] (s.drop (p + 1)) (by rw [← hd]; exact ho)
      rw [← hd, List.length_drop] at hn
      refine VOK_call h11 rfl rfl (VOK_lt (run_not ..) rfl (VOK_ite rfl (fun h => by cases h) (fun _ => VOK_lt (run_len_sl Try.underlying25 l) rfl (VOK_lt (run_geq ..) rfl (VOK_ite rfl (fun h => VOK_done ?_) (fun h => ?_))))))
      · have h : 300 ≤ l.length := by simp only [decide_eq_true_eq] at h; omega
        simp only [if_pos h] at hw
        rw [hw]; rfl
      · have h : ¬ 300 ≤ l.length := by simp only [decide_eq_false_iff_not] at h; omega
        simp only [if_neg h] at hw
        have hb := bl_le false (s.drop (p + n))
        rw [List.length_drop] at hb
        refine VOK_lt (run_app_sl (enc := encW) lenW (by decide) (by decide) l { w with place := (p : Int) } (by omega)) (okWds _) (VOK_lt (run_add ..) rfl ?_)
        rw [add64 (by omega)]
        refine VOK_lt (run_slc10_str str9 s .i64 (p + n) (by omega)) rfl (VOK_call (p10 _ (by rw [List.length_drop]; omega)) rfl rfl (VOK_lt (run_add ..) rfl ?_))
        rw [add64 (by omega)]
        exact VOK_again rfl ⟨(p + n + bl false (s.drop (p + n)), l ++ [{ w with place := (p : Int) }]), ⟨by omega, f, p + n, rfl, by omega, hw⟩, rfl, by simp only; omega⟩
  · have hlt : ¬ p < s.length := by simp only [decide_eq_false_iff_not] at hlt; omega
    rw [if_pos (by omega)] at hw
    rw [hw]; rfl
end Go.Proofs.Ytmhcemkembijeaa.vars
/-
  All words of a text, by the document.
-/
set_option maxRecDepth 100000
set_option linter.unusedVariables false
set_option linter.unusedSimpArgs false
namespace Go.Proofs.Ytmhcemkembijeaa.vars
open Go Go.Sx
def c8 : VC := ⟨⟨[], []⟩, [(12, [(some 5), none])], [(0, [⟨[(6, .slx 0 0 0), (5, .slx 0 5 1), (0, .sym 64)], [], 1, 2, [⟨0, 5, 1, 5, none⟩], []⟩]), (2, [⟨[(6, .slx 0 0 0), (35, .sym 67), (37, .sym 64), (38, .sym 77), (36, .sym 76), (39, .bool true), (43, .sym 67), (44, .sym 79), (42, .sym 64), (45, .sym 80), (46, .bool true), (5, .slx 0 5 1), (0, .sym 64), (28, .bool false), (27, .sym 71), (24, .bool false), (23, .sym 71)], [], 1, 2, [⟨0, 5, 1, 5, none⟩], []⟩])]⟩
def word8 (q : Nat) : VT :=
 (.lt (.slc 9 true false) [.sym 64, .sym 67] q none
 (.call 12 [.sym q] (q + 1) [(some 5), none]
 (.lt (.bin .eql 3 false true) [.sym (q + 6), .int .i64 0] (q + 7) none
 (.ite (q + 7)
  (.done (.tup [.nsl, .sym 67, .bool false]))
  (.lt (.len 25) [.sym 68] (q + 8) none
  (.lt (.bin .geq 3 false true) [.sym (q + 8), .int .i64 300] (q + 9) none
  (.ite (q + 9)
   (.done (.tup [.nsl, .sym 67, .bool false]))
   (.lt (.app 5 48) [.sym 68, .agg [.sym (q + 1), .sym (q + 2), .sym (q + 3), .sym (q + 4), .sym 67]] (q + 10) none
   (.lt (.bin .add 3 false false) [.sym 67, .sym (q + 6)] (q + 11) none
   (.again 0 0 [.sym (q + 11), .sym (q + 10)]))))))))))
def t8 : VT :=
 (.lt (.len 9) [.sym 64] 65 none
 (.lt (.bin .gtr 3 false true) [.sym 65, .int .i64 1200] 66 none
 (.ite 66
  (.done (.tup [.nsl, .int .i64 0, .bool false]))
  (.loop 67 0 [.int .i64 0, .nsl]
   (.cons 2
   (.lt (.len 9) [.sym 64] 69 none
   (.lt (.bin .lss 3 false false) [.sym 67, .sym 69] 70 none
   (.ite 70
    (.lt (.idx 9) [.sym 64, .sym 67] 71 none
    (.lt (.bin .eql 5 false true) [.sym 71, .int .u8 32] 72 none
    (.ite 72
     (.lt (.bin .add 3 false true) [.sym 67, .int .i64 1] 73 none
     (.again 0 0 [.sym 73, .sym 68]))
     (.lt (.bin .eql 5 false true) [.sym 71, .int .u8 9] 73 none
     (.ite 73
      (.lt (.bin .add 3 false true) [.sym 67, .int .i64 1] 74 none
      (.again 0 0 [.sym 74, .sym 68]))
      (.lt (.bin .eql 5 false true) [.sym 71, .int .u8 10] 74 none
      (.ite 74
       (.lt (.bin .add 3 false true) [.sym 67, .int .i64 1] 75 none
       (.again 0 0 [.sym 75, .sym 68]))
       (.lt (.bin .eql 5 false true) [.sym 71, .int .u8 47] 75 none
       (.ite 75
        (.lt (.bin .add 3 false true) [.sym 67, .int .i64 1] 76 none
        (.lt (.len 9) [.sym 64] 77 none
        (.lt (.bin .lss 3 false false) [.sym 76, .sym 77] 78 none
        (.ite 78
         (.lt (.bin .add 3 false true) [.sym 67, .int .i64 1] 79 none
         (.lt (.idx 9) [.sym 64, .sym 79] 80 none
         (.lt (.bin .eql 5 false true) [.sym 80, .int .u8 47] 81 none
         (.ite 81
          (.loop 82 0 [.sym 67, .sym 68]
           (.cons 2
           (.lt (.len 9) [.sym 64] 84 none
           (.lt (.bin .lss 3 false false) [.sym 82, .sym 84] 85 none
           (.ite 85
            (.lt (.idx 9) [.sym 64, .sym 82] 86 none
            (.lt (.bin .neq 5 false true) [.sym 86, .int .u8 10] 87 none
            (.ite 87
             (.lt (.bin .add 3 false true) [.sym 82, .int .i64 1] 88 none
             (.again 1 0 [.sym 88, .sym 83]))
             (.again 0 0 [.sym 82, .sym 83]))))
            (.again 0 0 [.sym 82, .sym 83]))))
           .nil))
          (word8 82)))))
         (word8 79)))))
        (word8 76))))))))))
    (.done (.tup [.sym 68, .int .i64 0, .bool true])))))
   .nil)))))
theorem p8 (s : List UInt8) (hs : s.length < 9223372036854775000) : Pure Try.prog 8 [.str s] (wordsRes (wordsS s)) := by
  refine pure_shape (sh := [none]) (ls := [.str s]) (c := c8) (n := 300) (t := t8) mo ov rfl rfl (wordsRes_ref _) (fun Y _ => known0 _) rfl (by kernel_rfl) fun Y hf hg => ?_
  unfold t8
  refine VOK_lt (run_len_str str9 s) rfl (VOK_lt (run_gtr ..) rfl (VOK_ite rfl (fun hl => VOK_done ?_) (fun hl => ?_)))
  · have hl : 1200 < s.length := by simp only [decide_eq_true_eq] at hl; omega
    unfold wordsS
    rw [if_pos hl]; rfl
  have hl : ¬ 1200 < s.length := by simp only [decide_eq_false_iff_not] at hl; omega
  refine VOK_loop (ι := Nat × List GWord) (fun x => [.int .i64 (x.1 : Int), wds x.2]) (fun x => x.1 ≤ s.length ∧ ∃ f, s.length < x.1 + f ∧ wordsS s = wordsR f s x.1 x.2) (fun x => s.length - x.1) (0, [])
    ⟨Nat.zero_le _, s.length + 1, by simp only; omega, by unfold wordsS; rw [if_neg hl]⟩ rfl (fun x _ => okIC (okWds x.2)) (fun x y _ _ h => ?_) (fun x hx => ?_)
  · simp at h; have h : x.1 = y.1 := by omega
    rw [h]
  obtain ⟨p, l⟩ := x
  obtain ⟨hp, f, hf1, hw0⟩ := hx
  simp only at hp hw0 hf1 ⊢
  have hw := hw0
  obtain ⟨f, rfl⟩ : ∃ f', f = f' + 1 := by
    rcases f with _ | f
    · exfalso; omega
    · exact ⟨f, rfl⟩
  simp only [wordsR] at hw
  refine VOK_lt (run_len_str str9 s) rfl (VOK_lt (run_lss ..) rfl (VOK_ite rfl (fun hlt => ?_) (fun hlt => VOK_done ?_)))
  · have hlt : p < s.length := by simp only [decide_eq_true_eq] at hlt; omega
    have hd := List.drop_eq_getElem_cons hlt
    have h12 := p12 s[p] (s.drop (p + 1)) (by rw [← hd, List.length_drop]; omega)
    rw [← hd] at h12
    have hskip : isB s[p] = true → wordsS s = wordsR (f + 1) s (p + 1) l := fun h => by
      rw [hw0]
      refine wordsR_skip _ _ _ _ _ ?_
      rw [hd]; simp only [bl, h, reduceIte]; omega
    refine VOK_lt (run_idx_str str9 s .i64 p hlt) rfl (VOK_lt (at_eq hlt 32 32 rfl ..) rfl (VOK_ite rfl (fun h32 => VOK_lt (run_add ..) rfl (VOK_again rfl ⟨(p + 1, l), ⟨hlt, f + 1, by simp only; omega, hskip ?_⟩, congrArg (fun x => [AV.int .i64 x, wds l]) (inc64 (by omega)), by simp only; omega⟩)) (fun h32 => ?_)))
    · unfold isB; rw [h32]; rfl
    refine VOK_lt (at_eq hlt 9 9 rfl ..) rfl (VOK_ite rfl (fun h9 => VOK_lt (run_add ..) rfl (VOK_again rfl ⟨(p + 1, l), ⟨hlt, f + 1, by simp only; omega, hskip ?_⟩, congrArg (fun x => [AV.int .i64 x, wds l]) (inc64 (by omega)), by simp only; omega⟩)) (fun h9 => ?_))
    · unfold isB; rw [h9]; simp
    refine VOK_lt (at_eq hlt 10 10 rfl ..) rfl (VOK_ite rfl (fun h10 => VOK_lt (run_add ..) rfl (VOK_again rfl ⟨(p + 1, l), ⟨hlt, f + 1, by simp only; omega, hskip ?_⟩, congrArg (fun x => [AV.int .i64 x, wds l]) (inc64 (by omega)), by simp only; omega⟩)) (fun h10 => ?_))
    · unfold isB; rw [h10]; simp
    have hnb : isB s[p] = false := by unfold isB; rw [h32, h9, h10]; rfl
    refine VOK_lt (at_eq hlt 47 47 rfl ..) rfl (VOK_ite rfl (fun h47 => ?_) (fun h47 => ?_))
    · have h47 := of_decide_eq_true h47
      refine VOK_lt (run_add ..) rfl ?_
      rw [inc64 (by omega)]
      refine VOK_lt (run_len_str str9 s) rfl (VOK_lt (run_lss ..) rfl (VOK_ite rfl (fun hlt2 => ?_) (fun hlt2 => ?_)))
      · have hlt2 : p + 1 < s.length := by simp only [decide_eq_true_eq] at hlt2; omega
        refine VOK_lt (run_add ..) rfl ?_
        rw [inc64 (by omega)]
        refine VOK_lt (run_idx_str str9 s .i64 (p + 1) hlt2) rfl (VOK_lt (at_eq hlt2 47 47 rfl ..) rfl (VOK_ite rfl (fun hs2 => ?_) (fun hs2 => ?_)))
        · have hs2 := of_decide_eq_true hs2
          have hsl : s[p] = 47 ∧ (s.drop (p + 1)).head? = some 47 := ⟨h47, by rw [List.drop_eq_getElem_cons hlt2, hs2]; rfl⟩
          have hsp1 : 1 ≤ span notNl (s.drop p) := by
            rw [span_at notNl s p hlt, (nl_iff _).2 (by rw [h47]; decide), if_pos rfl]; omega
          have hcom : wordsS s = wordsR (f + 1) s (p + span notNl (s.drop p)) l := by
            rw [hw0]
            refine wordsR_skip _ _ _ _ _ ?_
            have e : bl false (s.drop p) = bl true (s.drop p) := by
              conv => lhs; rw [hd]
              simp only [bl, hnb, Bool.false_eq_true, reduceIte, if_pos hsl]
              conv => rhs; rw [hd]
              simp only [bl, (nl_iff s[p]).2 (by rw [h47]; decide)]
            rw [e, bl_true, List.drop_drop]; omega
          refine VOK_loop (ι := Nat) (fun n => [.int .i64 (n : Int), wds l]) (fun n => n ≤ s.length ∧ p + span notNl (s.drop p) = n + span notNl (s.drop n)) (fun n => s.length - n) p ⟨hp, rfl⟩ rfl (fun _ _ => okIC (okWds l)) (fun i j _ _ h => ?_) (fun n hn => ?_)
          · simp at h; have h : i = j := by omega
            rw [h]
          obtain ⟨hn, hc⟩ := hn
          refine VOK_lt (run_len_str str9 s) rfl (VOK_lt (run_lss ..) rfl (VOK_ite rfl (fun g => ?_) (fun g => ?_)))
          · have g : n < s.length := by simp only [decide_eq_true_eq] at g; omega
            have hx := span_at notNl s n g
            refine VOK_lt (run_idx_str str9 s .i64 n g) rfl (VOK_lt (at_ne g 10 10 rfl ..) rfl (VOK_ite rfl (fun g2 => ?_) (fun g2 => ?_)))
            · have g2 : notNl s[n] = true := (nl_iff _).2 (by simpa using g2)
              rw [g2, if_pos rfl] at hx
              exact VOK_lt (run_add ..) rfl (VOK_again rfl ⟨n + 1, ⟨g, by omega⟩, congrArg (fun x => [AV.int .i64 x, wds l]) (inc64 (by omega)), by omega⟩)
            · have g2 : notNl s[n] = false := by
                have : s[n] = 10 := by simpa using g2
                rw [this]; rfl
              rw [g2] at hx
              have hx : span notNl (s.drop n) = 0 := hx
              rw [hx, Nat.add_zero] at hc
              exact VOK_again rfl ⟨(n, l), ⟨hn, f + 1, by simp only; omega, by simp only; rw [← hc]; exact hcom⟩, rfl, by simp only; omega⟩
          · have g : ¬ n < s.length := by simp only [decide_eq_false_iff_not] at g; omega
            have hz : span notNl (s.drop n) = 0 := by rw [List.drop_eq_nil_of_le (by omega)]; rfl
            rw [hz, Nat.add_zero] at hc
            exact VOK_again rfl ⟨(n, l), ⟨hn, f + 1, by simp only; omega, by simp only; rw [← hc]; exact hcom⟩, rfl, by simp only; omega⟩
        · have hns : ¬ (s[p] = 47 ∧ (s.drop (p + 1)).head? = some 47) := by
            rintro ⟨_, h⟩
            rw [List.drop_eq_getElem_cons hlt2] at h
            exact of_decide_eq_false hs2 (Option.some.inj h)
          rw [if_neg (by rw [hd]; simp only [bl, hnb, Bool.false_eq_true, reduceIte, if_neg hns]; omega)] at hw
          have hz : bl false (s.drop p) = 0 := by
            rw [hd]; simp only [bl, hnb, Bool.false_eq_true, reduceIte, if_neg hns]
          unfold word8
          rw [hz, Nat.add_zero] at hw
          refine VOK_lt (run_slc10_str str9 s .i64 p hp) rfl ?_
          rcases ho : oneS (s.drop p) with _ | ⟨w, n⟩
          · rw [ho] at h12 hw
            refine VOK_call h12 rfl rfl (VOK_lt (run_eql ..) rfl (VOK_ite rfl (fun _ => VOK_done ?_) (fun h => by cases h)))
            rw [hw]; rfl
          · rw [ho] at h12 hw
            have hn := oneS_len s[p] (s.drop (p + 1)) (by rw [← hd]; exact ho)
            rw [← hd, List.length_drop] at hn
            refine VOK_call h12 rfl rfl (VOK_lt (run_eql ..) rfl (VOK_ite rfl (fun h => ?_) (fun _ => VOK_lt (run_len_sl Try.underlying25 l) rfl (VOK_lt (run_geq ..) rfl (VOK_ite rfl (fun h => VOK_done ?_) (fun h => ?_))))))
            · exfalso
              have h : (n : Int) = 0 := of_decide_eq_true h
              omega
            · have h : 300 ≤ l.length := by simp only [decide_eq_true_eq] at h; omega
              simp only [if_pos h] at hw
              rw [hw]; rfl
            · have h : ¬ 300 ≤ l.length := by simp only [decide_eq_false_iff_not] at h; omega
              simp only [if_neg h] at hw
              refine VOK_lt (run_app_sl (enc := encW) lenW (by decide) (by decide) l { w with place := (p : Int) } (by omega)) (okWds _) (VOK_lt (run_add ..) rfl ?_)
              rw [add64 (by omega)]
              exact VOK_again rfl ⟨(p + n, l ++ [{ w with place := (p : Int) }]), ⟨by simp only; omega, f, by simp only; omega, hw⟩, rfl, by simp only; omega⟩
      · have hlt2 : ¬ p + 1 < s.length := by simp only [decide_eq_false_iff_not] at hlt2; omega
        have hns : ¬ (s[p] = 47 ∧ (s.drop (p + 1)).head? = some 47) := by
          rintro ⟨_, h⟩
          rw [List.drop_eq_nil_of_le (by omega)] at h
          cases h
        rw [if_neg (by rw [hd]; simp only [bl, hnb, Bool.false_eq_true, reduceIte, if_neg hns]; omega)] at hw
        have hz : bl false (s.drop p) = 0 := by
          rw [hd]; simp only [bl, hnb, Bool.false_eq_true, reduceIte, if_neg hns]
        unfold word8
        rw [hz, Nat.add_zero] at hw
        refine VOK_lt (run_slc10_str str9 s .i64 p hp) rfl ?_
        rcases ho : oneS (s.drop p) with _ | ⟨w, n⟩
        · rw [ho] at h12 hw
          refine VOK_call h12 rfl rfl (VOK_lt (run_eql ..) rfl (VOK_ite rfl (fun _ => VOK_done ?_) (fun h => by cases h)))
          rw [hw]; rfl
        · rw [ho] at h12 hw
          have hn := oneS_len s[p] (s.drop (p + 1)) (by rw [← hd]; exact ho)
          rw [← hd, List.length_drop] at hn
          refine VOK_call h12 rfl rfl (VOK_lt (run_eql ..) rfl (VOK_ite rfl (fun h => ?_) (fun _ => VOK_lt (run_len_sl Try.underlying25 l) rfl (VOK_lt (run_geq ..) rfl (VOK_ite rfl (fun h => VOK_done ?_) (fun h => ?_))))))
          · exfalso
            have h : (n : Int) = 0 := of_decide_eq_true h
            omega
          · have h : 300 ≤ l.length := by simp only [decide_eq_true_eq] at h; omega
            simp only [if_pos h] at hw
            rw [hw]; rfl
          · have h : ¬ 300 ≤ l.length := by simp only [decide_eq_false_iff_not] at h; omega
            simp only [if_neg h] at hw
            refine VOK_lt (run_app_sl (enc := encW) lenW (by decide) (by decide) l { w with place := (p : Int) } (by omega)) (okWds _) (VOK_lt (run_add ..) rfl ?_)
            rw [add64 (by omega)]
            exact VOK_again rfl ⟨(p + n, l ++ [{ w with place := (p : Int) }]), ⟨by simp only; omega, f, by simp only; omega, hw⟩, rfl, by simp only; omega⟩
    · have hns : ¬ (s[p] = 47 ∧ (s.drop (p + 1)).head? = some 47) := fun h => of_decide_eq_false h47 h.1
      rw [if_neg (by rw [hd]; simp only [bl, hnb, Bool.false_eq_true, reduceIte, if_neg hns]; omega)] at hw
      have hz : bl false (s.drop p) = 0 := by
        rw [hd]; simp only [bl, hnb, Bool.false_eq_true, reduceIte, if_neg hns]
      unfold word8
      rw [hz, Nat.add_zero] at hw
      refine VOK_lt (run_slc10_str str9 s .i64 p hp) rfl ?_
      rcases ho : oneS (s.drop p) with _ | ⟨w, n⟩
      · rw [ho] at h12 hw
        refine VOK_call h12 rfl rfl (VOK_lt (run_eql ..) rfl (VOK_ite rfl (fun _ => VOK_done ?_) (fun h => by cases h)))
        rw [hw]; rfl
      · rw [ho] at h12 hw
        have hn := oneS_len s[p] (s.drop (p + 1)) (by rw [← hd]; exact ho)
        rw [← hd, List.length_drop] at hn
        refine VOK_call h12 rfl rfl (VOK_lt (run_eql ..) rfl (VOK_ite rfl (fun h => ?_) (fun _ => VOK_lt (run_len_sl Try.underlying25 l) rfl (VOK_lt (run_geq ..) rfl (VOK_ite rfl (fun h => VOK_done ?_) (fun h => ?_))))))
        · exfalso
          have h : (n : Int) = 0 := of_decide_eq_true h
          omega
        · have h : 300 ≤ l.length := by simp only [decide_eq_true_eq] at h; omega
          simp only [if_pos h] at hw
          rw [hw]; rfl
        · have h : ¬ 300 ≤ l.length := by simp only [decide_eq_false_iff_not] at h; omega
          simp only [if_neg h] at hw
          refine VOK_lt (run_app_sl (enc := encW) lenW (by decide) (by decide) l { w with place := (p : Int) } (by omega)) (okWds _) (VOK_lt (run_add ..) rfl ?_)
          rw [add64 (by omega)]
          exact VOK_again rfl ⟨(p + n, l ++ [{ w with place := (p : Int) }]), ⟨by simp only; omega, f, by simp only; omega, hw⟩, rfl, by simp only; omega⟩
  · have hlt : ¬ p < s.length := by simp only [decide_eq_false_iff_not] at hlt; omega
    rw [if_pos (by omega)] at hw
    rw [hw]; rfl
end Go.Proofs.Ytmhcemkembijeaa.vars
/-
  Words held against words; some words.
-/
set_option maxRecDepth 100000
set_option linter.unusedVariables false
set_option linter.unusedSimpArgs false
namespace Go.Proofs.Ytmhcemkembijeaa.vars
open Go Go.Sx
def bitsF (n : Nat) : Int := if nanB n = true then 9221120237041090561 else (n : Int)
def c25 : VC := ⟨⟨[], []⟩, [], []⟩
def t25 : VT :=
 (.lt (.bin .neq 31 false false) [.sym 64, .sym 64] 65 none
 (.ite 65
  (.done (.int .u64 9221120237041090561))
  (.lt (.ext 30) [.sym 64] 66 none
  (.done (.sym 66)))))
theorem ext30 (n : Nat) : (XOp.ext 30).run Try.prog [.flt .f64 n] = some (.int .u64 (n : Int)) := by kernel_rfl
theorem p25 (n : Nat) : Pure Try.prog 25 [.flt .f64 n] (.int .u64 (bitsF n)) := by
  refine pure_shape (sh := [none]) (ls := [.flt .f64 n]) (c := c25) (n := 300) (t := t25) mo ov rfl rfl rfl (fun Y _ => known0 _) rfl (by kernel_rfl) fun Y hf hg => ?_
  unfold t25
  refine VOK_lt (run_fself ..) rfl (VOK_ite rfl (fun h => VOK_done ?_) (fun h => VOK_lt (ext30 n) rfl (VOK_done ?_)))
  · show AV.int .u64 _ = _
    unfold bitsF; rw [if_pos h]
  · show AV.int .u64 (n : Int) = _
    unfold bitsF; rw [h]; rfl
def c13 : VC := ⟨⟨[], []⟩, [(25, [none])], []⟩
def t13 : VT :=
 (.call 25 [.sym 64] 66 [none]
 (.call 25 [.sym 65] 67 [none]
 (.lt (.bin .eql 46 false false) [.sym 66, .sym 67] 68 none
 (.done (.sym 68)))))
theorem p13 (n : Nat) : Pure Try.prog 13 [.flt .f64 n, .flt .f64 n] (.bool true) := by
  refine pure_shape (sh := [none, none]) (ls := [.flt .f64 n, .flt .f64 n]) (c := c13) (n := 300) (t := t13) mo ov rfl rfl rfl (fun Y _ => known0 _) rfl (by kernel_rfl) fun Y hf hg => ?_
  unfold t13
  refine VOK_call (p25 n) rfl rfl (VOK_call (p25 n) rfl rfl (VOK_lt (run_eql ..) rfl (VOK_done ?_)))
  show AV.bool _ = _
  simp
def c9 : VC := ⟨⟨[], []⟩, [(13, [none])], [(0, [⟨[(5, .slx 0 0 0), (1, .sym 65), (0, .sym 64)], [], 0, 1, [], []⟩])]⟩
def t9 : VT :=
 (.lt (.len 25) [.sym 64] 66 none
 (.lt (.len 25) [.sym 65] 67 none
 (.lt (.bin .neq 3 false false) [.sym 66, .sym 67] 68 none
 (.ite 68
  (.done (.bool false))
  (.loop 69 0 [.int .i64 0]
   (.cons 1
   (.lt (.len 25) [.sym 64] 70 none
   (.lt (.bin .lss 3 false false) [.sym 69, .sym 70] 71 none
   (.ite 71
    (.lt (.iaddr 25) [.sym 64, .sym 69] 72 none
    (.lt (.load 33) [.sym 72] 73 (some 5)
    (.lt (.iaddr 25) [.sym 65, .sym 69] 78 none
    (.lt (.load 33) [.sym 78] 79 (some 5)
    (.lt (.bin .neq 3 false false) [.sym 73, .sym 79] 84 none
    (.ite 84
     (.done (.bool false))
     (.lt (.bin .neq 9 false false) [.sym 74, .sym 80] 85 none
     (.ite 85
      (.done (.bool false))
      (.lt (.bin .neq 2 false false) [.sym 75, .sym 81] 86 none
      (.ite 86
       (.done (.bool false))
       (.lt (.bin .neq 3 false false) [.sym 77, .sym 83] 87 none
       (.ite 87
        (.done (.bool false))
        (.call 13 [.sym 76, .sym 82] 88 [none]
        (.lt (.un .not) [.sym 88] 89 none
        (.ite 89
         (.done (.bool false))
         (.lt (.bin .add 3 false true) [.sym 69, .int .i64 1] 90 none
         (.again 0 0 [.sym 90])))))))))))))))))
    (.done (.bool true)))))
   .nil))))))
theorem len25 (l : List GWord) : (XOp.len 25).run Try.prog [wds l] = some (.int .i64 (l.length : Int)) := run_len_sl Try.underlying25 l
theorem ia25 {l : List GWord} {i : Nat} (h : i < l.length) : (XOp.iaddr 25).run Try.prog [wds l, .int .i64 (i : Int)] = some (.vptr (encL encW (l.drop i))) :=
  run_iaddr_sl (ti := (Try.prog.info? 33).get!) Try.underlying25 (by kernel_rfl) (by kernel_rfl) lenW h .i64
theorem ld33 {l : List GWord} {i : Nat} (h : i < l.length) : (XOp.load 33).run Try.prog [.vptr (encL encW (l.drop i))] = some (.agg (encW l[i])) :=
  run_load_agg (ti := (Try.prog.info? 33).get!) Try.underlying33 rfl (by kernel_rfl) (by kernel_rfl) lenW h
theorem okVp (l : List GWord) : okC (.vptr (encL encW l)) = true := encL_ok okW l
theorem p9 (l : List GWord) (hl : l.length < 9223372036854775000) : Pure Try.prog 9 [wds l, wds l] (.bool true) := by
  refine pure_shape (sh := [none, none]) (ls := [wds l, wds l]) (c := c9) (n := 300) (t := t9) mo ov (by cases l <;> rfl) (by
    show (match okC (wds l) with | true => okL [wds l] | false => false) = true
    rw [okWds l]; exact okC1 (okWds l)) rfl (fun Y _ => known0 _) rfl (by kernel_rfl) fun Y hf hg => ?_
  unfold t9
  refine VOK_lt (len25 l) rfl (VOK_lt (len25 l) rfl (VOK_lt (run_neq ..) rfl (VOK_ite rfl (fun h => ?_) (fun h => ?_))))
  · simp at h
  refine VOK_loop (ι := Nat) (fun n => [.int .i64 (n : Int)]) (fun n => n ≤ l.length) (fun n => l.length - n) 0 (Nat.zero_le _) rfl (fun _ _ => rfl) (fun i j _ _ h => ?_) (fun n hn => ?_)
  · simp at h; have h : i = j := by omega
    rw [h]
  refine VOK_lt (len25 l) rfl (VOK_lt (run_lss ..) rfl (VOK_ite rfl (fun hlt => ?_) (fun hlt => VOK_done rfl)))
  have hlt : n < l.length := by simp only [decide_eq_true_eq] at hlt; omega
  refine VOK_lt (ia25 hlt) (okVp _) (VOK_ltN (ld33 hlt) rfl rfl (VOK_lt (ia25 hlt) (okVp _) (VOK_ltN (ld33 hlt) rfl rfl ?_)))
  refine VOK_lt (run_neq ..) rfl (VOK_ite rfl (fun h => ?_) (fun h => ?_))
  · simp at h
  refine VOK_lt (run_nes ..) rfl (VOK_ite rfl (fun h => ?_) (fun h => ?_))
  · simp at h
  refine VOK_lt (run_neq ..) rfl (VOK_ite rfl (fun h => ?_) (fun h => ?_))
  · simp at h
  refine VOK_lt (run_neq ..) rfl (VOK_ite rfl (fun h => ?_) (fun h => ?_))
  · simp at h
  refine VOK_call (p13 _) rfl rfl (VOK_lt (run_not ..) rfl (VOK_ite rfl (fun h => by cases h) (fun h => VOK_lt (run_add ..) rfl (VOK_again rfl ⟨n + 1, hlt, congrArg (fun x => [AV.int .i64 x]) (inc64 (by omega)), by omega⟩))))
/-! ### does word do anything yet? -/
def b0 : List UInt8 := [97, 49, 58, 61, 49, 46, 53, 59, 32, 47, 47, 32, 110, 111]
def b1 : List UInt8 := [97, 32, 63]
def v0 : AV := .tup [.vsl 4 5 [.int .i64 1, .str [97, 49], .int .i64 0, .flt .f64 0, .int .i64 0, .int .i64 5, .str [58, 61], .int .i64 0, .flt .f64 0, .int .i64 2, .int .i64 3, .str [], .int .i64 0, .flt .f64 4609434218613702656, .int .i64 4, .int .i64 5, .str [59], .int .i64 0, .flt .f64 0, .int .i64 7], .int .i64 0, .bool true]
def v1 : AV := .tup [.nsl, .int .i64 2, .bool false]
theorem q0 : Pure Try.prog 7 [.str b0] v0 := by
  have h := p7 b0 (by decide)
  have e : wordsRes (wordsS b0) = v0 := by kernel_rfl
  rw [e] at h; exact h
theorem q1 : Pure Try.prog 7 [.str b1] v1 := by
  have h := p7 b1 (by decide)
  have e : wordsRes (wordsS b1) = v1 := by kernel_rfl
  rw [e] at h; exact h
abbrev l2 : List (FuncId × List AV × AV) := [(7, [.str b0], v0), (7, [.str b1], v1)]
theorem o2 : @OvOk (glTI 1 l2) Try.prog := ov_consI (ov_consI (ov_nilI 1 Try.prog) q1) q0
theorem e6 : @memo (glTI 1 l2) Try.prog 300 6 [] (.bool true) = true := by kernel_rfl
theorem p6 : Pure Try.prog 6 [] (.bool true) := @memo_ok (glTI 1 l2) Try.prog mo o2 300 6 [] (.bool true) e6
end Go.Proofs.Ytmhcemkembijeaa.vars
