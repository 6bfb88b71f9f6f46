/-
  What the functions of vars come to, each by its tree: names.
-/
import Derived.Test.YtbceomdmpbmnkaaV2
import Derived.KernelRfl
set_option maxRecDepth 100000
set_option linter.unusedVariables false
set_option linter.unusedSimpArgs false
namespace Go.Proofs.Ytbceomdmpbmnkaa.vars
open Go Go.Sx
def okCh (first : Bool) (c : UInt8) : Bool := (97 ≤ c.toNat ∧ c.toNat ≤ 122) ∨ (first = false ∧ 48 ≤ c.toNat ∧ c.toNat ≤ 57)
def chars : Bool → List UInt8 → Bool
  | _, [] => true
  | f, c :: r => okCh f c && chars false r
def nameOk (s : List UInt8) : Bool := (decide (1 ≤ s.length) && decide (s.length ≤ 8)) && chars true s
theorem chars_at (s : List UInt8) (n : Nat) (h : n < s.length) : (chars (decide (n = 0)) (s.drop n)) = (okCh (decide (n = 0)) s[n] && chars false (s.drop (n + 1))) := by
  rw [List.drop_eq_getElem_cons h]; rfl
theorem str9 : Try.prog.underlying 9 = some .string := Try.underlying9
def c42 : VC := ⟨⟨[], []⟩, [], [(0, [⟨[(15, .slx 0 0 0), (0, .sym 64), (14, .sym 69)], [], 0, 1, [], []⟩])]⟩
def t42 : VT :=
 (.lt (.len 9) [.sym 64] 65 none
 (.lt (.bin .lss 3 false true) [.sym 65, .int .i64 1] 66 none
 (.ite 66
  (.done (.bool false))
  (.lt (.len 9) [.sym 64] 67 none
  (.lt (.bin .gtr 3 false true) [.sym 67, .int .i64 8] 68 none
  (.ite 68
   (.done (.bool false))
   (.lt (.len 9) [.sym 64] 69 none
   (.loop 70 0 [.int .i64 0]
    (.cons 1
    (.lt (.bin .lss 3 false false) [.sym 70, .sym 69] 71 none
    (.ite 71
     (.lt (.idx 9) [.sym 64, .sym 70] 72 none
     (.lt (.bin .geq 5 false true) [.sym 72, .int .u8 97] 73 none
     (.ite 73
      (.lt (.idx 9) [.sym 64, .sym 70] 74 none
      (.lt (.bin .leq 5 false true) [.sym 74, .int .u8 122] 75 none
      (.lt (.un .not) [.sym 75] 76 none
      (.ite 76
       (.lt (.bin .eql 3 false true) [.sym 70, .int .i64 0] 77 none
       (.ite 77
        (.done (.bool false))
        (.lt (.idx 9) [.sym 64, .sym 70] 78 none
        (.lt (.bin .lss 5 false true) [.sym 78, .int .u8 48] 79 none
        (.ite 79
         (.done (.bool false))
         (.lt (.idx 9) [.sym 64, .sym 70] 80 none
         (.lt (.bin .gtr 5 false true) [.sym 80, .int .u8 57] 81 none
         (.ite 81
          (.done (.bool false))
          (.lt (.bin .add 3 false true) [.sym 70, .int .i64 1] 82 none
          (.again 0 0 [.sym 82]))))))))))
       (.lt (.bin .add 3 false true) [.sym 70, .int .i64 1] 77 none
       (.again 0 0 [.sym 77]))))))
      (.lt (.bin .eql 3 false true) [.sym 70, .int .i64 0] 74 none
      (.ite 74
       (.done (.bool false))
       (.lt (.idx 9) [.sym 64, .sym 70] 75 none
       (.lt (.bin .lss 5 false true) [.sym 75, .int .u8 48] 76 none
       (.ite 76
        (.done (.bool false))
        (.lt (.idx 9) [.sym 64, .sym 70] 77 none
        (.lt (.bin .gtr 5 false true) [.sym 77, .int .u8 57] 78 none
        (.ite 78
         (.done (.bool false))
         (.lt (.bin .add 3 false true) [.sym 70, .int .i64 1] 79 none
         (.again 0 0 [.sym 79])))))))))))))
     (.done (.bool true))))
    .nil)))))))))
theorem p42 (s : List UInt8) : Pure Try.prog 42 [.str s] (.bool (nameOk s)) := by
  refine pure_shape (sh := [none]) (ls := [.str s]) (c := c42) (n := 300) (t := t42) mo ov rfl rfl rfl (fun Y _ => known0 _) rfl (by kernel_rfl) fun Y hf hg => ?_
  unfold t42
  refine VOK_lt (run_len_str str9 s) rfl (VOK_lt (run_lss ..) rfl (VOK_ite rfl (fun h1 => VOK_done ?_) (fun h1 => VOK_lt (run_len_str str9 s) rfl (VOK_lt (run_gtr ..) rfl (VOK_ite rfl (fun h2 => VOK_done ?_) (fun h2 => VOK_lt (run_len_str str9 s) rfl ?_))))))
  · show AV.bool _ = _
    have : ¬ 1 ≤ s.length := by simp only [decide_eq_true_eq] at h1; omega
    simp [nameOk, this]
  · show AV.bool _ = _
    have : ¬ s.length ≤ 8 := by simp only [decide_eq_true_eq] at h2; omega
    simp [nameOk, this]
  have hlen : s.length ≤ 8 := by simp only [decide_eq_false_iff_not] at h2; omega
  have h1' : 1 ≤ s.length := by simp only [decide_eq_false_iff_not] at h1; omega
  have hname : nameOk s = chars true s := by simp [nameOk, hlen, h1']
  rw [hname]
  refine VOK_loop (ι := Nat) (fun n => [.int .i64 n]) (fun n => n ≤ s.length ∧ chars true s = chars (decide (n = 0)) (s.drop n)) (fun n => s.length - n) 0 ⟨Nat.zero_le _, rfl⟩ rfl (fun _ _ => rfl) (fun i j _ _ h => ?_) (fun n hn => ?_)
  · simp at h; have h : i = j := by omega
    rw [h]
  obtain ⟨hn, hc⟩ := hn
  refine VOK_lt (run_lss ..) rfl (VOK_ite rfl (fun hlt => ?_) (fun hlt => VOK_done ?_))
  · have hlt : n < s.length := by simp only [decide_eq_true_eq] at hlt; omega
    have hx := chars_at s n hlt
    have hw : IntKind.i64.wrap ((n : Int) + 1) = ((n + 1 : Nat) : Int) := by rw [wrap64 (by omega) (by omega)]; rfl
    have hno : okCh (decide (n = 0)) s[n] = false → AV.bool false = AV.bool (chars true s) := fun h => by rw [hc, hx, h]; rfl
    have ag : okCh (decide (n = 0)) s[n] = true → chars true s = chars (decide (n + 1 = 0)) (s.drop (n + 1)) := fun h => by rw [hc, hx, h]; simp
    repeat' (first
      | refine VOK_lt (run_idx_str str9 s .i64 n hlt) rfl ?_
      | refine VOK_lt (run_geq ..) rfl ?_
      | refine VOK_lt (run_leq ..) rfl ?_
      | refine VOK_lt (run_lss ..) rfl ?_
      | refine VOK_lt (run_gtr ..) rfl ?_
      | refine VOK_lt (run_eql ..) rfl ?_
      | refine VOK_lt (run_not ..) rfl ?_
      | refine VOK_lt (run_add ..) rfl ?_
      | refine VOK_ite rfl (fun h => ?_) (fun h => ?_)
      | refine VOK_again rfl ⟨n + 1, ⟨by omega, ?_⟩, ?_, by omega⟩
      | refine VOK_done ?_)
    all_goals (simp only [decide_eq_true_eq, decide_eq_false_iff_not, Bool.not_eq_true', Bool.not_eq_false'] at *)
    all_goals first
      | exact congrArg (fun x => [AV.int .i64 x]) hw
      | (refine hno ?_; simp [okCh]; omega)
      | (refine ag ?_; simp [okCh]; omega)
  · show AV.bool true = _
    have he : n = s.length := by simp only [decide_eq_false_iff_not] at hlt; omega
    rw [hc, he, List.drop_length]
    cases s <;> rfl
end Go.Proofs.Ytbceomdmpbmnkaa.vars
