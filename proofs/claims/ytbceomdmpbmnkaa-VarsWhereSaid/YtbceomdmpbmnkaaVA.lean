/-
  The law VarsWhere answers true, whichever variables are left out.
-/
import Derived.Test.YtbceomdmpbmnkaaV9
import Derived.KernelRfl
set_option maxRecDepth 100000
set_option linter.unusedVariables false
set_option linter.unusedSimpArgs false
namespace Go.Proofs.Ytbceomdmpbmnkaa.vars
open Go Go.Sx
def c5 : VC := ⟨⟨[], []⟩, [(6, [none]), (7, [none]), (9, [none, none]), (15, [none]), (18, [none]), (23, [none]), (20, [none])], [(0, [⟨[(4, .slx 0 0 0), (5, .sym 67), (3, .slx 0 10 1), (0, .sym 64)], [], 1, 2, [⟨0, 10, 1, 3, none⟩], []⟩]), (2, [⟨[(9, .slx 0 0 0), (8, .sym 74), (10, .slx 1 0 0), (3, .sym 69), (7, .sym 73), (6, .sym 72)], [], 0, 2, [], []⟩]), (4, [⟨[(12, .slx 0 0 0), (9, .sym 80), (8, .sym 74), (10, .sym 81), (3, .sym 69), (7, .sym 73), (11, .slx 1 0 0), (6, .sym 72)], [], 0, 2, [], []⟩])]⟩
def t5 : VT :=
 (.call 6 [] 65 [none]
 (.lt (.un .not) [.sym 65] 66 none
 (.ite 66
  (.done (.bool false))
  (.call 7 [] 67 [none]
  (.loop 68 0 [.int .i64 0, .nsl]
   (.cons 2
   (.lt (.len 22) [.sym 67] 70 none
   (.lt (.bin .lss 3 false false) [.sym 68, .sym 70] 71 none
   (.ite 71
    (.lt (.bin .shr 53 false false) [.sym 64, .sym 68] 72 none
    (.lt (.bin .and 53 false true) [.sym 72, .int .u16 1] 73 none
    (.lt (.bin .eql 53 false true) [.sym 73, .int .u16 0] 74 none
    (.ite 74
     (.lt (.iaddr 22) [.sym 67, .sym 68] 75 none
     (.lt (.load 50) [.sym 75] 76 (some 10)
     (.lt (.app 10 88) [.sym 69, .agg [.sym 76, .sym 77, .sym 78, .sym 79, .sym 80, .sym 81, .sym 82, .sym 83, .sym 84, .sym 85]] 86 none
     (.lt (.bin .add 3 false true) [.sym 68, .int .i64 1] 87 none
     (.again 0 0 [.sym 87, .sym 86])))))
     (.lt (.bin .add 3 false true) [.sym 68, .int .i64 1] 75 none
     (.again 0 0 [.sym 75, .sym 69]))))))
    (.call 9 [.sym 69] 72 [none, none]
    (.call 15 [.sym 69] 74 [none]
    (.lt (.len 30) [.sym 72] 75 none
    (.lt (.len 22) [.sym 69] 76 none
    (.lt (.bin .neq 3 false false) [.sym 75, .sym 76] 77 none
    (.ite 77
     (.done (.bool false))
     (.lt (.len 33) [.sym 74] 78 none
     (.lt (.bin .neq 3 false false) [.sym 78, .sym 73] 79 none
     (.ite 79
      (.done (.bool false))
      (.loop 80 0 [.int .i64 0, .int .i64 0]
       (.cons 2
       (.lt (.len 22) [.sym 69] 82 none
       (.lt (.bin .lss 3 false false) [.sym 81, .sym 82] 83 none
       (.ite 83
        (.lt (.iaddr 30) [.sym 72, .sym 81] 84 none
        (.lt (.load 3) [.sym 84] 85 none
        (.lt (.bin .neq 3 false false) [.sym 85, .sym 80] 86 none
        (.ite 86
         (.done (.bool false))
         (.lt (.iaddr 22) [.sym 69, .sym 81] 87 none
         (.lt (.faddr 50 2) [.sym 87] 88 none
         (.lt (.load 3) [.sym 88] 89 none
         (.call 18 [.sym 89] 90 [none]
         (.lt (.iaddr 22) [.sym 69, .sym 81] 91 none
         (.lt (.faddr 50 3) [.sym 91] 92 none
         (.lt (.load 3) [.sym 92] 93 none
         (.lt (.bin .gtr 3 false true) [.sym 93, .int .i64 0] 94 none
         (.ite 94
          (.lt (.iaddr 22) [.sym 69, .sym 81] 95 none
          (.lt (.faddr 50 3) [.sym 95] 96 none
          (.lt (.load 3) [.sym 96] 97 none
          (.loop 98 0 [.int .i64 0, .sym 97]
           (.cons 2
           (.lt (.bin .lss 3 false false) [.sym 98, .sym 99] 100 none
           (.ite 100
            (.lt (.bin .add 3 false false) [.sym 80, .sym 98] 101 none
            (.lt (.bin .geq 3 false false) [.sym 101, .sym 73] 102 none
            (.ite 102
             (.done (.bool false))
             (.lt (.bin .add 3 false false) [.sym 80, .sym 98] 103 none
             (.lt (.iaddr 33) [.sym 74, .sym 103] 104 none
             (.lt (.load 25) [.sym 104] 105 (some 3)
             (.call 23 [.agg [.sym 105, .sym 106, .sym 107]] 108 [none]
             (.lt (.un .not) [.sym 108] 109 none
             (.ite 109
              (.done (.bool false))
              (.lt (.iaddr 22) [.sym 69, .sym 81] 110 none
              (.lt (.faddr 50 2) [.sym 110] 111 none
              (.lt (.load 3) [.sym 111] 112 none
              (.call 18 [.sym 112] 113 [none]
              (.lt (.bin .eql 3 false true) [.sym 113, .int .i64 1] 114 none
              (.ite 114
               (.lt (.bin .add 3 false false) [.sym 80, .sym 98] 115 none
               (.lt (.iaddr 33) [.sym 74, .sym 115] 116 none
               (.lt (.load 25) [.sym 116] 117 (some 3)
               (.lt (.iaddr 22) [.sym 69, .sym 81] 120 none
               (.lt (.faddr 50 4) [.sym 120] 121 none
               (.lt (.load 25) [.sym 121] 122 (some 3)
               (.call 20 [.agg [.sym 117, .sym 118, .sym 119], .agg [.sym 122, .sym 123, .sym 124]] 125 [none]
               (.lt (.un .not) [.sym 125] 126 none
               (.ite 126
                (.done (.bool false))
                (.lt (.iaddr 22) [.sym 69, .sym 81] 127 none
                (.lt (.faddr 50 2) [.sym 127] 128 none
                (.lt (.load 3) [.sym 128] 129 none
                (.call 18 [.sym 129] 130 [none]
                (.lt (.bin .gtr 3 false true) [.sym 130, .int .i64 1] 131 none
                (.ite 131
                 (.lt (.bin .add 3 false false) [.sym 80, .sym 98] 132 none
                 (.lt (.iaddr 33) [.sym 74, .sym 132] 133 none
                 (.lt (.faddr 25 1) [.sym 133] 134 none
                 (.lt (.load 2) [.sym 134] 135 none
                 (.lt (.bin .neq 2 false true) [.sym 135, .int .i64 0] 136 none
                 (.ite 136
                  (.done (.bool false))
                  (.lt (.bin .add 3 false false) [.sym 80, .sym 98] 137 none
                  (.lt (.iaddr 33) [.sym 74, .sym 137] 138 none
                  (.lt (.faddr 25 2) [.sym 138] 139 none
                  (.lt (.load 23) [.sym 139] 140 none
                  (.lt (.bin .neq 23 false true) [.sym 140, .flt .f64 0] 141 none
                  (.ite 141
                   (.done (.bool false))
                   (.lt (.bin .add 3 false true) [.sym 98, .int .i64 1] 142 none
                   (.again 2 0 [.sym 142, .sym 99]))))))))))))))
                 (.lt (.bin .add 3 false true) [.sym 98, .int .i64 1] 132 none
                 (.again 2 0 [.sym 132, .sym 99])))))))))))))))))
               (.lt (.iaddr 22) [.sym 69, .sym 81] 115 none
               (.lt (.faddr 50 2) [.sym 115] 116 none
               (.lt (.load 3) [.sym 116] 117 none
               (.call 18 [.sym 117] 118 [none]
               (.lt (.bin .gtr 3 false true) [.sym 118, .int .i64 1] 119 none
               (.ite 119
                (.lt (.bin .add 3 false false) [.sym 80, .sym 98] 120 none
                (.lt (.iaddr 33) [.sym 74, .sym 120] 121 none
                (.lt (.faddr 25 1) [.sym 121] 122 none
                (.lt (.load 2) [.sym 122] 123 none
                (.lt (.bin .neq 2 false true) [.sym 123, .int .i64 0] 124 none
                (.ite 124
                 (.done (.bool false))
                 (.lt (.bin .add 3 false false) [.sym 80, .sym 98] 125 none
                 (.lt (.iaddr 33) [.sym 74, .sym 125] 126 none
                 (.lt (.faddr 25 2) [.sym 126] 127 none
                 (.lt (.load 23) [.sym 127] 128 none
                 (.lt (.bin .neq 23 false true) [.sym 128, .flt .f64 0] 129 none
                 (.ite 129
                  (.done (.bool false))
                  (.lt (.bin .add 3 false true) [.sym 98, .int .i64 1] 130 none
                  (.again 2 0 [.sym 130, .sym 99]))))))))))))))
                (.lt (.bin .add 3 false true) [.sym 98, .int .i64 1] 120 none
                (.again 2 0 [.sym 120, .sym 99])))))))))))))))))))))))
            (.lt (.bin .add 3 false false) [.sym 80, .sym 99] 101 none
            (.lt (.bin .add 3 false true) [.sym 81, .int .i64 1] 102 none
            (.again 1 0 [.sym 101, .sym 102])))))
           .nil)))))
          (.loop 95 0 [.int .i64 0, .sym 90]
           (.cons 2
           (.lt (.bin .lss 3 false false) [.sym 95, .sym 96] 97 none
           (.ite 97
            (.lt (.bin .add 3 false false) [.sym 80, .sym 95] 98 none
            (.lt (.bin .geq 3 false false) [.sym 98, .sym 73] 99 none
            (.ite 99
             (.done (.bool false))
             (.lt (.bin .add 3 false false) [.sym 80, .sym 95] 100 none
             (.lt (.iaddr 33) [.sym 74, .sym 100] 101 none
             (.lt (.load 25) [.sym 101] 102 (some 3)
             (.call 23 [.agg [.sym 102, .sym 103, .sym 104]] 105 [none]
             (.lt (.un .not) [.sym 105] 106 none
             (.ite 106
              (.done (.bool false))
              (.lt (.iaddr 22) [.sym 69, .sym 81] 107 none
              (.lt (.faddr 50 2) [.sym 107] 108 none
              (.lt (.load 3) [.sym 108] 109 none
              (.call 18 [.sym 109] 110 [none]
              (.lt (.bin .eql 3 false true) [.sym 110, .int .i64 1] 111 none
              (.ite 111
               (.lt (.bin .add 3 false false) [.sym 80, .sym 95] 112 none
               (.lt (.iaddr 33) [.sym 74, .sym 112] 113 none
               (.lt (.load 25) [.sym 113] 114 (some 3)
               (.lt (.iaddr 22) [.sym 69, .sym 81] 117 none
               (.lt (.faddr 50 4) [.sym 117] 118 none
               (.lt (.load 25) [.sym 118] 119 (some 3)
               (.call 20 [.agg [.sym 114, .sym 115, .sym 116], .agg [.sym 119, .sym 120, .sym 121]] 122 [none]
               (.lt (.un .not) [.sym 122] 123 none
               (.ite 123
                (.done (.bool false))
                (.lt (.iaddr 22) [.sym 69, .sym 81] 124 none
                (.lt (.faddr 50 2) [.sym 124] 125 none
                (.lt (.load 3) [.sym 125] 126 none
                (.call 18 [.sym 126] 127 [none]
                (.lt (.bin .gtr 3 false true) [.sym 127, .int .i64 1] 128 none
                (.ite 128
                 (.lt (.bin .add 3 false false) [.sym 80, .sym 95] 129 none
                 (.lt (.iaddr 33) [.sym 74, .sym 129] 130 none
                 (.lt (.faddr 25 1) [.sym 130] 131 none
                 (.lt (.load 2) [.sym 131] 132 none
                 (.lt (.bin .neq 2 false true) [.sym 132, .int .i64 0] 133 none
                 (.ite 133
                  (.done (.bool false))
                  (.lt (.bin .add 3 false false) [.sym 80, .sym 95] 134 none
                  (.lt (.iaddr 33) [.sym 74, .sym 134] 135 none
                  (.lt (.faddr 25 2) [.sym 135] 136 none
                  (.lt (.load 23) [.sym 136] 137 none
                  (.lt (.bin .neq 23 false true) [.sym 137, .flt .f64 0] 138 none
                  (.ite 138
                   (.done (.bool false))
                   (.lt (.bin .add 3 false true) [.sym 95, .int .i64 1] 139 none
                   (.again 2 0 [.sym 139, .sym 96]))))))))))))))
                 (.lt (.bin .add 3 false true) [.sym 95, .int .i64 1] 129 none
                 (.again 2 0 [.sym 129, .sym 96])))))))))))))))))
               (.lt (.iaddr 22) [.sym 69, .sym 81] 112 none
               (.lt (.faddr 50 2) [.sym 112] 113 none
               (.lt (.load 3) [.sym 113] 114 none
               (.call 18 [.sym 114] 115 [none]
               (.lt (.bin .gtr 3 false true) [.sym 115, .int .i64 1] 116 none
               (.ite 116
                (.lt (.bin .add 3 false false) [.sym 80, .sym 95] 117 none
                (.lt (.iaddr 33) [.sym 74, .sym 117] 118 none
                (.lt (.faddr 25 1) [.sym 118] 119 none
                (.lt (.load 2) [.sym 119] 120 none
                (.lt (.bin .neq 2 false true) [.sym 120, .int .i64 0] 121 none
                (.ite 121
                 (.done (.bool false))
                 (.lt (.bin .add 3 false false) [.sym 80, .sym 95] 122 none
                 (.lt (.iaddr 33) [.sym 74, .sym 122] 123 none
                 (.lt (.faddr 25 2) [.sym 123] 124 none
                 (.lt (.load 23) [.sym 124] 125 none
                 (.lt (.bin .neq 23 false true) [.sym 125, .flt .f64 0] 126 none
                 (.ite 126
                  (.done (.bool false))
                  (.lt (.bin .add 3 false true) [.sym 95, .int .i64 1] 127 none
                  (.again 2 0 [.sym 127, .sym 96]))))))))))))))
                (.lt (.bin .add 3 false true) [.sym 95, .int .i64 1] 117 none
                (.again 2 0 [.sym 117, .sym 96])))))))))))))))))))))))
            (.lt (.bin .add 3 false false) [.sym 80, .sym 96] 98 none
            (.lt (.bin .add 3 false true) [.sym 81, .int .i64 1] 99 none
            (.again 1 0 [.sym 98, .sym 99])))))
           .nil)))))))))))))))
        (.lt (.bin .eql 3 false false) [.sym 80, .sym 73] 84 none
        (.done (.sym 84))))))
       .nil))))))))))))))
   .nil))))))
section
variable {Q : AV → Prop} {L : List (Nat → List AV → Prop)} {Y : Sy}
theorem VOK_iteF {i : Nat} {a b : VT} (h : Y.v i = some (.bool false)) (h2 : VOK Try.prog Q L Y b) : VOK Try.prog Q L Y (.ite i a b) := VOK_ite h (fun h => by cases h) (fun _ => h2)
theorem VOK_iteT {i : Nat} {a b : VT} (h : Y.v i = some (.bool true)) (h2 : VOK Try.prog Q L Y a) : VOK Try.prog Q L Y (.ite i a b) := VOK_ite h (fun _ => h2) (fun h => by cases h)
end
/-! ### which are left -/
def bitF (g : Int) (i : Nat) : Int := IntKind.u16.wrap ((BitVec.ofInt IntKind.u16.bits (g.fdiv (2 ^ (min i IntKind.u16.bits))) &&& BitVec.ofInt IntKind.u16.bits 1).toNat : Nat)
theorem run_shr {t : TypeId} {cx cy : Bool} (g : Int) (i : Nat) : (XOp.bin .shr t cx cy).run Try.prog [.int .u16 g, .int .i64 (i : Int)] = some (.int .u16 (g.fdiv (2 ^ (min i IntKind.u16.bits)))) := by
  show evInt2 Try.prog .shr .u16 g .i64 (i : Int) = _
  have h : pureRun Try.prog (binOp .shr 0 (.int .u16 g) (.int .i64 (i : Int))) = some (.int .u16 (g.fdiv (2 ^ (min i IntKind.u16.bits)))) := by
    have hn : ¬ ((i : Int) < 0) := by omega
    show pureRun Try.prog (Op.shift .shr .u16 g .i64 (i : Int)) = _
    unfold Op.shift
    rw [if_neg hn]
    rfl
  unfold evInt2
  rw [h]; rfl
theorem run_and1 {t : TypeId} {cx cy : Bool} (g : Int) (i : Nat) : (XOp.bin .and t cx cy).run Try.prog [.int .u16 (g.fdiv (2 ^ (min i IntKind.u16.bits))), .int .u16 1] = some (.int .u16 (bitF g i)) := rfl
def selF (g : Int) : List GVar → Nat → List GVar
  | [], _ => []
  | v :: r, i => if bitF g i = 0 then v :: selF g r (i + 1) else selF g r (i + 1)
theorem selF_snoc (g : Int) (v : GVar) : ∀ (l : List GVar) (i : Nat), selF g (l ++ [v]) i = selF g l i ++ (if bitF g (i + l.length) = 0 then [v] else [])
  | [], i => by simp only [List.nil_append, selF, List.length_nil, Nat.add_zero]
  | a :: r, i => by
    simp only [List.cons_append, selF, selF_snoc g v r, List.length_cons]
    rw [show i + 1 + r.length = i + (r.length + 1) by omega]
    split <;> rfl
theorem selF_sub (g : Int) : ∀ (l : List GVar) (i : Nat), (selF g l i).Sublist l
  | [], _ => List.Sublist.slnil
  | v :: r, i => by
    unfold selF
    split
    · exact (selF_sub g r _).cons_cons v
    · exact (selF_sub g r _).cons v
theorem app10_88 (l : List GVar) (v : GVar) (hl : l.length ≤ 100000) : (XOp.app 10 88).run Try.prog [vrs l, .agg (encVar v)] = some (vrs (l ++ [v])) := run_app_sl (enc := encVar) lenVar (by decide) (by decide) l v (by omega)
theorem neq_self (t : TypeId) (cx cy : Bool) (k : IntKind) (a : Int) : (XOp.bin .neq t cx cy).run Try.prog [.int k a, .int k a] = some (.bool false) := by rw [run_neq]; simp
theorem len33 (l : List GVal) : (XOp.len 33).run Try.prog [vals l] = some (.int .i64 (l.length : Int)) := run_len_sl Try.underlying33 l
theorem ia33 {l : List GVal} {i : Nat} (h : i < l.length) : (XOp.iaddr 33).run Try.prog [vals l, .int .i64 (i : Int)] = some (.vptr (encVal l[i] ++ encL encVal (l.drop (i + 1)))) := by
  have := run_iaddr_sl (enc := encVal) (w := 3) (ti := (Try.prog.info? 25).get!) Try.underlying33 (by kernel_rfl) (by kernel_rfl) lenVal h .i64
  rw [List.drop_eq_getElem_cons h] at this
  exact this
theorem ia22' {l : List GVar} {i : Nat} (h : i < l.length) : (XOp.iaddr 22).run Try.prog [vrs l, .int .i64 (i : Int)] = some (.vptr (encVar l[i] ++ encL encVar (l.drop (i + 1)))) := by
  have := ia22 h
  rw [List.drop_eq_getElem_cons h] at this
  exact this
theorem fa50_2 (v : GVar) (r : List AV) : (XOp.faddr 50 2).run Try.prog [.vptr (encVar v ++ r)] = some (.vptr (.int .i64 v.kind :: ([.int .i64 v.size, .int .i64 v.first.kind, .int .i64 v.first.i, .flt .f64 v.first.f, .int .i64 v.safe.kind, .int .i64 v.safe.i, .flt .f64 v.safe.f] ++ r))) := by kernel_rfl
theorem fa50_3 (v : GVar) (r : List AV) : (XOp.faddr 50 3).run Try.prog [.vptr (encVar v ++ r)] = some (.vptr (.int .i64 v.size :: ([.int .i64 v.first.kind, .int .i64 v.first.i, .flt .f64 v.first.f, .int .i64 v.safe.kind, .int .i64 v.safe.i, .flt .f64 v.safe.f] ++ r))) := by kernel_rfl
theorem fa50_4 (v : GVar) (r : List AV) : (XOp.faddr 50 4).run Try.prog [.vptr (encVar v ++ r)] = some (.vptr (encVal v.first ++ ([.int .i64 v.safe.kind, .int .i64 v.safe.i, .flt .f64 v.safe.f] ++ r))) := by kernel_rfl
theorem fa25_1 (v : GVal) (r : List AV) : (XOp.faddr 25 1).run Try.prog [.vptr (encVal v ++ r)] = some (.vptr (.int .i64 v.i :: .flt .f64 v.f :: r)) := by kernel_rfl
theorem fa25_2 (v : GVal) (r : List AV) : (XOp.faddr 25 2).run Try.prog [.vptr (encVal v ++ r)] = some (.vptr (.flt .f64 v.f :: r)) := by kernel_rfl
theorem ld25 (v : GVal) (r : List AV) : (XOp.load 25).run Try.prog [.vptr (encVal v ++ r)] = some (.agg (encVal v)) := by kernel_rfl
theorem ld3 (x : AV) (r : List AV) : (XOp.load 3).run Try.prog [.vptr (x :: r)] = some x := run_load_one Try.underlying3 rfl x r
theorem ld2 (x : AV) (r : List AV) : (XOp.load 2).run Try.prog [.vptr (x :: r)] = some x := run_load_one Try.underlying2 rfl x r
theorem ld23 (x : AV) (r : List AV) : (XOp.load 23).run Try.prog [.vptr (x :: r)] = some x := run_load_one Try.underlying23 rfl x r
theorem neqF : (XOp.bin .neq 23 false true).run Try.prog [.flt .f64 0, .flt .f64 0] = some (.bool false) := by kernel_rfl
theorem okRow {α : Type} {enc : α → List AV} (h : ∀ a, okL (enc a) = true) (a : α) (l : List α) : okL (enc a ++ encL enc l) = true := encL_ok h (a :: l)
theorem p5 (g : Int) : Pure Try.prog 5 [.int .u16 g] (.bool true) := by
  refine pure_shape (sh := [none]) (ls := [.int .u16 g]) (c := c5) (n := 300) (t := t5) mo ov rfl rfl rfl (fun Y _ => known0 _) rfl (by kernel_rfl) fun Y hf hg => ?_
  unfold t5
  obtain ⟨pv, hpv⟩ : ∃ pv, pv = playV := ⟨_, rfl⟩
  have p7' : Pure Try.prog 7 [] (vrs pv) := by rw [hpv]; exact p7
  have h12 : pv.length = 12 := by rw [hpv]; rfl
  refine VOK_call p6 rfl rfl (VOK_lt (run_not ..) rfl (VOK_iteF rfl (VOK_call p7' rfl (okC1 (okVrs _)) ?_)))
  refine VOK_loop (ι := Nat) (fun i => [.int .i64 i, vrs (selF g (pv.take i) 0)]) (fun i => i ≤ pv.length) (fun i => pv.length - i) 0 (Nat.zero_le _) rfl
    (fun i _ => by simp only [okL, okC, okVrs]) (fun i j _ _ h => ?_) (fun i hi => ?_)
  · simp at h; have h : i = j := by omega
    rw [h]
  refine VOK_lt (len22 _) rfl (VOK_lt (run_lss ..) rfl (VOK_ite rfl (fun hlt => ?_) (fun hlt => ?_)))
  · -- one is looked at
    have hlt : i < pv.length := by simp only [decide_eq_true_eq] at hlt; omega
    have hti : (pv.take i).length = i := by rw [List.length_take]; omega
    have hsn := selF_snoc g pv[i] (pv.take i) 0
    rw [← take_snoc pv hlt, Nat.zero_add, hti] at hsn
    refine VOK_lt (run_shr g i) rfl (VOK_lt (run_and1 g i) rfl (VOK_lt (run_eql ..) rfl (VOK_ite rfl (fun hb => ?_) (fun hb => ?_))))
    · have hb : bitF g i = 0 := by simpa using hb
      rw [if_pos hb] at hsn
      refine VOK_lt (ia22 hlt) (encL_ok okVar _) (VOK_ltN (ld50 hlt) rfl rfl (VOK_lt (app10_88 _ _ ?_) (okVrs _) (VOK_lt (run_add ..) rfl (VOK_again rfl ⟨i + 1, hlt, ?_, by omega⟩))))
      · have := (selF_sub g (pv.take i) 0).length_le; omega
      · rw [hsn, ← wrapS hlt (by omega)]; rfl
    · have hb : ¬ bitF g i = 0 := by simpa using hb
      rw [if_neg hb, List.append_nil] at hsn
      refine VOK_lt (run_add ..) rfl (VOK_again rfl ⟨i + 1, hlt, ?_, by omega⟩)
      rw [hsn, ← wrapS hlt (by omega)]; rfl
  -- what is left
  have he : i = pv.length := by simp only [decide_eq_false_iff_not] at hlt; omega
  subst he
  rw [List.take_length]
  generalize hl : selF g pv 0 = l
  obtain ⟨hm, hlen, hz⟩ := play_may (a := l) (by rw [← hl, ← hpv]; exact selF_sub g pv 0)
  obtain ⟨hall, _, _, _⟩ := may_all hm
  have hn : sumW l 0 = ((firstF l).length : Int) := by have := sumW_tot l 0 hall (by omega); simpa using this
  have hA : ∀ i, sumW (l.take i) 0 = ((firstF (l.take i)).length : Int) := fun i => by
    have := sumW_tot (l.take i) 0 (all_take hall i) (by rw [List.length_take]; omega)
    simpa using this
  have hfl := firstF_le l hall
  have p9' : Pure Try.prog 9 [vrs l] (.tup [ints (addrsF l 0), .int .i64 ((firstF l).length : Int)]) := by
    have := p9 l (by omega) hz
    rw [if_pos hm, hn] at this; exact this
  have p15' : Pure Try.prog 15 [vrs l] (vals (firstF l)) := by
    have := p15 l (by omega) hz
    rw [if_pos hm] at this; exact this
  have hl30 : (XOp.len 30).run Try.prog [ints (addrsF l 0)] = some (.int .i64 (l.length : Int)) := by rw [len30, addrsF_len]
  refine VOK_call p9' rfl (by simp only [okL, okC, okInts]) (VOK_call p15' rfl (okC1 (okVals _)) (VOK_lt hl30 rfl (VOK_lt (len22 l) rfl (VOK_lt (neq_self ..) rfl (VOK_iteF rfl (VOK_lt (len33 _) rfl (VOK_lt (neq_self ..) rfl (VOK_iteF rfl ?_))))))))
  refine VOK_loop (ι := Nat) (fun i => [.int .i64 ((firstF (l.take i)).length : Nat), .int .i64 i]) (fun i => i ≤ l.length) (fun i => l.length - i) 0 (Nat.zero_le _) rfl
    (fun i _ => rfl) (fun i j _ _ h => ?_) (fun i hi => ?_)
  · simp at h; have h : i = j := by omega
    rw [h]
  refine VOK_lt (len22 l) rfl (VOK_lt (run_lss ..) rfl (VOK_ite rfl (fun hlt => ?_) (fun hlt => ?_)))
  · -- one variable
    have hlt : i < l.length := by simp only [decide_eq_true_eq] at hlt; omega
    have hlt' : i < (addrsF l 0).length := by rw [addrsF_len]; exact hlt
    have hmv : mayVar l[i] = true := by rw [List.all_eq_true] at hall; exact hall _ (List.getElem_mem hlt)
    have hzv := hz _ (List.getElem_mem hlt)
    obtain ⟨w1, w2⟩ := width_law hmv
    have hfo := firstOf_le hmv
    have hia := ia22' hlt
    have hat : (XOp.load 3).run Try.prog [.vptr (encL encI ((addrsF l 0).drop i))] = some (.int .i64 ((firstF (l.take i)).length : Int)) := by rw [ld3i hlt', addrs_at, hA]
    have hnext : firstF (l.take (i + 1)) = firstF (l.take i) ++ firstOf l[i] := by rw [take_snoc l hlt, firstF_snoc]
    have hAl : (firstF (l.take i)).length ≤ 96 := by
      have := firstF_le (l.take i) (all_take hall i)
      rw [List.length_take] at this; omega
    have hat0 := fun k (hk : k < (firstOf l[i]).length) => first_at l hlt hk
    have hok0 := fun k (hk : k < (firstOf l[i]).length) => firstOf_at hmv hzv hk
    have hp18 := p18 l[i].kind
    generalize hv : l[i] = v at *
    generalize hR : encL encVar (l.drop (i + 1)) = R at hia
    have okR : okL (encVar v ++ R) = true := by rw [← hR]; exact okRow okVar v _
    have okR2 : okL R = true := by rw [← hR]; exact encL_ok okVar _
    generalize hA0 : (firstF (l.take i)).length = A at *
    refine VOK_lt (ia30 hlt') (encL_ok okI1 _) (VOK_lt hat rfl (VOK_lt (neq_self ..) rfl (VOK_iteF rfl (VOK_lt hia okR (VOK_lt (fa50_2 v R) okR2 (VOK_lt (ld3 ..) rfl (VOK_call hp18 rfl rfl (VOK_lt hia okR (VOK_lt (fa50_3 v R) okR2 (VOK_lt (ld3 ..) rfl (VOK_lt (run_gtr ..) rfl ?_)))))))))))
    obtain ⟨_, hc0, _⟩ := may_facts hmv
    have hcl := cells_le v.kind
    have hinc : (XOp.bin .add 3 false true).run Try.prog [.int .i64 (i : Int), .int .i64 1] = some (.int .i64 ((i + 1 : Nat) : Int)) := by rw [run_add, wrapS hlt (by omega)]
    have hAW : (XOp.bin .add 3 false false).run Try.prog [.int .i64 (A : Int), .int .i64 ((firstOf v).length : Int)] = some (.int .i64 ((A + (firstOf v).length : Nat) : Int)) := by rw [run_add, wrap64 (by omega) (by omega)]; rfl
    have hfin : [AV.int .i64 ((A + (firstOf v).length : Nat) : Int), AV.int .i64 ((i + 1 : Nat) : Int)] = [.int .i64 ((firstF (l.take (i + 1))).length : Nat), .int .i64 ((i + 1 : Nat) : Int)] := by rw [hnext, List.length_append, hA0]
    refine VOK_ite rfl (fun hs => VOK_lt hia okR (VOK_lt (fa50_3 v R) okR2 (VOK_lt (ld3 ..) rfl ?_))) (fun hs => ?_)
    all_goals (simp only [decide_eq_true_eq, decide_eq_false_iff_not] at hs)
    all_goals
      refine VOK_loop (ι := Nat) (fun k => [.int .i64 k, .int .i64 ((firstOf v).length : Nat)]) (fun k => k ≤ (firstOf v).length) (fun k => (firstOf v).length - k) 0 (Nat.zero_le _) (by first | (rw [← w1 hs]; rfl) | (rw [← w2 hs]; rfl))
        (fun k _ => rfl) (fun k j _ _ h => by simp at h; have h : k = j := by omega
                                              rw [h]) (fun k hk => ?_)
      refine VOK_lt (run_lss ..) rfl (VOK_ite rfl (fun hkl => ?_) (fun hkl => VOK_lt (r := .int .i64 ((A + (firstOf v).length : Nat) : Int)) ?_ rfl (VOK_lt hinc rfl (VOK_again rfl ⟨i + 1, hlt, hfin, by omega⟩))))
      rotate_left
      · have hkw : k = (firstOf v).length := by simp only [decide_eq_false_iff_not] at hkl; omega
        exact hAW
      have hkl : k < (firstOf v).length := by simp only [decide_eq_true_eq] at hkl; omega
      obtain ⟨hfl2, hx⟩ := hat0 k hkl
      obtain ⟨hx1, hx2, hx3, hx4⟩ := hok0 k hkl
      have h33 := ia33 hfl2
      have okX : okL (encVal (firstF l)[A + k] ++ encL encVal ((firstF l).drop (A + k + 1))) = true := okRow okVal _ _
      rw [hx] at h33 okX
      generalize hR' : encL encVal ((firstF l).drop (A + k + 1)) = R' at h33 okX
      have okX2 : okL R' = true := by rw [← hR']; exact encL_ok okVal _
      generalize (firstOf v)[k] = x at *
      obtain ⟨xk, xi, xf⟩ := x
      simp only at hx2 hx3 hx4
      subst hx2
      have p23x : Pure Try.prog 23 [.agg (encVal ⟨xk, xi, 0⟩)] (.bool true) := by
        have := p23 ⟨xk, xi, 0⟩ rfl
        rw [hx1] at this; exact this
      have hadd : (XOp.bin .add 3 false false).run Try.prog [.int .i64 (A : Int), .int .i64 (k : Int)] = some (.int .i64 ((A + k : Nat) : Int)) := by rw [run_add, wrap64 (by omega) (by omega)]; rfl
      have hgeq : (XOp.bin .geq 3 false false).run Try.prog [.int .i64 ((A + k : Nat) : Int), .int .i64 ((firstF l).length : Int)] = some (.bool false) := by rw [run_geq, decide_eq_false (by omega)]
      have hinc2 : (XOp.bin .add 3 false true).run Try.prog [.int .i64 (k : Int), .int .i64 1] = some (.int .i64 ((k + 1 : Nat) : Int)) := by rw [run_add, wrapS hkl (by omega)]
      by_cases hc1 : (cellsOf v.kind).length = 1
      · have heq1 : (XOp.bin .eql 3 false true).run Try.prog [.int .i64 ((cellsOf v.kind).length : Int), .int .i64 1] = some (.bool true) := by rw [run_eql, hc1]; rfl
        have hgt1 : (XOp.bin .gtr 3 false true).run Try.prog [.int .i64 ((cellsOf v.kind).length : Int), .int .i64 1] = some (.bool false) := by rw [run_gtr, hc1]; rfl
        have p20x : Pure Try.prog 20 [.agg (encVal ⟨xk, xi, 0⟩), .agg (encVal v.first)] (.bool true) := by rw [← hx3 hc1]; exact p20 _ rfl
        refine VOK_lt hadd rfl (VOK_lt hgeq rfl (VOK_iteF rfl (VOK_lt hadd rfl (VOK_lt h33 okX (VOK_ltN (ld25 ..) rfl rfl (VOK_call p23x rfl rfl (VOK_lt (run_not ..) rfl (VOK_iteF rfl ?_))))))))
        refine VOK_lt hia okR (VOK_lt (fa50_2 v R) okR2 (VOK_lt (ld3 ..) rfl (VOK_call hp18 rfl rfl (VOK_lt heq1 rfl (VOK_iteT rfl ?_)))))
        refine VOK_lt hadd rfl (VOK_lt h33 okX (VOK_ltN (ld25 ..) rfl rfl (VOK_lt hia okR (VOK_lt (fa50_4 v R) okR2 (VOK_ltN (ld25 ..) rfl rfl (VOK_call p20x rfl rfl (VOK_lt (run_not ..) rfl (VOK_iteF rfl ?_))))))))
        refine VOK_lt hia okR (VOK_lt (fa50_2 v R) okR2 (VOK_lt (ld3 ..) rfl (VOK_call hp18 rfl rfl (VOK_lt hgt1 rfl (VOK_iteF rfl ?_)))))
        exact VOK_lt hinc2 rfl (VOK_again rfl ⟨k + 1, hkl, rfl, by omega⟩)
      · have heq1 : (XOp.bin .eql 3 false true).run Try.prog [.int .i64 ((cellsOf v.kind).length : Int), .int .i64 1] = some (.bool false) := by rw [run_eql, decide_eq_false (by omega)]
        have hgt1 : (XOp.bin .gtr 3 false true).run Try.prog [.int .i64 ((cellsOf v.kind).length : Int), .int .i64 1] = some (.bool true) := by rw [run_gtr, decide_eq_true (by omega)]
        have hxi : xi = 0 := hx4 hc1
        subst hxi
        refine VOK_lt hadd rfl (VOK_lt hgeq rfl (VOK_iteF rfl (VOK_lt hadd rfl (VOK_lt h33 okX (VOK_ltN (ld25 ..) rfl rfl (VOK_call p23x rfl rfl (VOK_lt (run_not ..) rfl (VOK_iteF rfl ?_))))))))
        refine VOK_lt hia okR (VOK_lt (fa50_2 v R) okR2 (VOK_lt (ld3 ..) rfl (VOK_call hp18 rfl rfl (VOK_lt heq1 rfl (VOK_iteF rfl ?_)))))
        refine VOK_lt hia okR (VOK_lt (fa50_2 v R) okR2 (VOK_lt (ld3 ..) rfl (VOK_call hp18 rfl rfl (VOK_lt hgt1 rfl (VOK_iteT rfl ?_)))))
        refine VOK_lt hadd rfl (VOK_lt h33 okX (VOK_lt (fa25_1 ..) okX2 (VOK_lt (ld2 ..) rfl (VOK_lt (neq_self ..) rfl (VOK_iteF rfl ?_)))))
        refine VOK_lt hadd rfl (VOK_lt h33 okX (VOK_lt (fa25_2 ..) okX2 (VOK_lt (ld23 ..) rfl (VOK_lt neqF rfl (VOK_iteF rfl ?_)))))
        exact VOK_lt hinc2 rfl (VOK_again rfl ⟨k + 1, hkl, rfl, by omega⟩)
  · -- the end
    have he : i = l.length := by simp only [decide_eq_false_iff_not] at hlt; omega
    subst he
    rw [List.take_length]
    refine VOK_lt (run_eql ..) rfl (VOK_done ?_)
    show AV.bool (decide _) = AV.bool true
    simp
end Go.Proofs.Ytbceomdmpbmnkaa.vars
