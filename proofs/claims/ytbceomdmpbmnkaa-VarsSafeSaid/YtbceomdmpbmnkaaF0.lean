/-
  What functions take and leave that take rows.
-/
import Derived.Test.YtbceomdmpbmnkaaSyQ
import Derived.Test.YtbceomdmpbmnkaaRows
import Derived.KernelRfl
import Derived.Test.YtbceomdmpbmnkaaSyU
import Derived.Test.YtbceomdmpbmnkaaSyG
import Derived.Test.YtbceomdmpbmnkaaSyR
set_option linter.unusedVariables false
namespace Go.Proofs.Ytbceomdmpbmnkaa.vars
open Go Go.Sx
instance symN (n : Nat) : OfNat AV n := ⟨.sym n⟩
abbrev J (n : Int) : AV := .int .i64 n
def hs : Nat → Nat → List AV
 | _, 0 => []
 | j, n + 1 => .slx j 0 0 :: hs (j + 1) n
def pk (a b : AV) : Nat × List AV := (0, [a, b])
def ft40 : FT := ⟨1, ⟨[(0, .ptr 0 0), (1, .slx 2 0 0)], [pk (.slx 0 0 0) (.slx 1 0 0)], 1, 3, [], [], []⟩, [(false, ⟨[(0, .slx 0 0 0)], [pk (.sym 64) (.slx 1 0 0)], 1, 2, [], [], []⟩)]⟩
def ft52 : FT := ft40
def ft51 : FT := ⟨1, ⟨[(0, .ptr 0 0)], [pk (.slx 0 0 0) (.slx 1 0 0)], 1, 2, [], [], []⟩, [(false, ⟨[(0, .slx 0 0 0)], [pk (.sym 64) (.slx 1 0 0)], 1, 2, [], [], []⟩)]⟩
def ft41 : FT := ⟨1, ⟨[(0, .ptr 0 0), (1, .slx 2 0 0)], [pk (.slx 0 0 0) (.slx 1 0 0)], 1, 3, [], [], []⟩, [(false, ⟨[(0, .agg (hs 0 3))], [pk (.sym 64) (.slx 3 0 0)], 1, 4, [], [], []⟩)]⟩
def ft26 : FT := ⟨1, ⟨[(0, .ptr 0 0)], [pk (.slx 0 0 0) (.slx 1 0 0)], 1, 2, [], [], []⟩, [(false, ⟨[(0, .vsl 21 3 (hs 0 63))], [pk (.sym 64) (.slx 63 0 0)], 1, 64, [], [], []⟩)]⟩
def hsMem : Hints := [(0, (List.range 22).map fun i => ⟨[(4, .int .i64 (.ofNat i)), (3, .sl 1 0 21 3 none), (0, .ptr 0 0)], [pk (.sym 64) (.slx 0 0 0), (1, hs 1 63)], 2, 64, [], [], []⟩)]
def ft25 : FT := ⟨0, ⟨[(0, .slx 0 0 0)], [], 0, 1, [], [], []⟩, [(false, ⟨[(0, .ptr 0 0)], [pk (.sym 64) (.int .i64 0)], 1, 0, [], [], []⟩)]⟩
end Go.Proofs.Ytbceomdmpbmnkaa.vars
set_option maxRecDepth 100000
set_option linter.unusedVariables false
set_option linter.unusedSimpArgs false
namespace Go.Proofs.Ytbceomdmpbmnkaa.vars
open Go Go.Sx
instance gI : Gl := glT gl0 nr0 []
theorem mo : Try.prog.follows .mixedOrders = true := by kernel_rfl
theorem ov : OvOk Try.prog := ov_nil gl0 nr0 _
theorem callF' {P : Program} {Q : AV → Prop} {L : List (Nat → List AV → Prop)} {Y : Sy} {f : FuncId} {ft : FT} {hv vs : List AV} {n : Nat} {bs : VTs} {R : Nat → List AV → Prop} (h1 : CF P f ft vs R) (h0 : denL Y.v hv = vs) (h2 : okL vs = true) (h3 : VOKb P Q R L (Y.puts n vs) (Nat.add n ft.ent.nv) 0 bs) : VOK P Q L Y (.callF f ft hv n bs) := by
 subst h0; exact VOK_callF h1 h2 h3
def encC (c : UInt8) : List AV := [.int .u8 (c.toNat : Int)]
theorem lenC (c : UInt8) : (encC c).length = 1 := rfl
theorem okC8 (c : UInt8) : okL (encC c) = true := rfl
def Pk (l : List UInt8) (a : AV) : Prop := SlV encC 1 l a ∧ l.length ≤ 9223372036854775807
section
variable {l : List UInt8} {a : AV}
theorem len44 (h : Pk l a) : (XOp.len 44).run Try.prog [a] = some (.int .i64 (l.length : Int)) := h.1.len Try.underlying44
theorem ia44 (h : Pk l a) {i : Nat} (hi : i < l.length) {k : IntKind} : (XOp.iaddr 44).run Try.prog [a, .int k (i : Int)] = some (.vptr (encL encC (l.drop i))) := h.1.ia (e := 5) Try.underlying44 (ti := (Try.prog.info? 5).get!) (by kernel_rfl) (by kernel_rfl) lenC hi k
theorem ld5 {i : Nat} (hi : i < l.length) : (XOp.load 5).run Try.prog [.vptr (encL encC (l.drop i))] = some (.int .u8 (l[i].toNat : Int)) := by
 rw [List.drop_eq_getElem_cons hi]
 exact run_load_one Try.underlying5 rfl _ _
end
theorem cv5_3 (n : Nat) (h : n < 256) : (XOp.conv 5 3).run Try.prog [.int .u8 (n : Int)] = some (.int .i64 (n : Int)) := by
 rw [run_conv_ii Try.underlying5 Try.underlying3, wrap64 (by omega) (by omega)]
theorem run_rem (x m : Nat) (h : 0 < m) (h2 : m < 9223372036854775808) (t : TypeId) (cx cy : Bool) : (XOp.bin .rem t cx cy).run Try.prog [.int .i64 (x : Int), .int .i64 (m : Int)] = some (.int .i64 ((x % m : Nat) : Int)) := by
 have : (x : Int).tmod (m : Int) = ((x % m : Nat) : Int) := by
  rw [Int.tmod_eq_emod_of_nonneg (by omega)]; rfl
 show evBin Try.prog .rem t cx cy (.int .i64 (x : Int)) (.int .i64 (m : Int)) = _
 exact rem_run (by omega) this t cx cy
theorem add_c {x y : Int} {t : TypeId} {cx cy : Bool} (h1 : -9223372036854775807 ≤ x + y) (h2 : x + y ≤ 9223372036854775807) : (XOp.bin .add t cx cy).run Try.prog [.int .i64 x, .int .i64 y] = some (.int .i64 (x + y)) := by
 rw [run_add, wrap64 (by omega) (by omega)]
theorem sub_c {x y z : Int} {t : TypeId} {cx cy : Bool} (h : x - y = z) (h1 : -9223372036854775807 ≤ z) (h2 : z ≤ 9223372036854775807) : (XOp.bin .sub t cx cy).run Try.prog [.int .i64 x, .int .i64 y] = some (.int .i64 z) := by
 rw [run_sub, h, wrap64 (by omega) (by omega)]
def RN (l : List UInt8) (m : Nat) : Nat → List AV → Prop := fun _ ws => ∃ v n : Nat, ws = [.int .i64 (v : Int), .int .i64 (n : Int)] ∧ v < m ∧ n ≤ l.length
def c40 : VC := ⟨⟨[], []⟩, [], [], 1, true, []⟩
def t40 : VT :=
 (.lt (.len 44) [64] 67 none
 (.lt (.bin .geq 3 false false) [65, 67] 68 none
 (.ite 68
 (.done (.tup [J 0, J 0, 65]))
 (.lt (.bin .add 3 false true) [65, J 1] 69 none
 (.lt (.bin .sub 3 false true) [69, J 1] 70 none
 (.lt (.iaddr 44) [64, 70] 71 none
 (.lt (.load 5) [71] 72 none
 (.lt (.conv 5 3) [72] 73 none
 (.lt (.bin .rem 3 false false) [73, 66] 74 none
 (.done (.tup [J 0, 74, 69])))))))))))
theorem p40 {l : List UInt8} {a : AV} {n m : Nat} (h : Pk l a) (hn : n ≤ l.length) (hm : 0 < m) (hm2 : m ≤ 1000) : CF Try.prog 40 ft40 [a, .int .i64 (n : Int), .int .i64 (m : Int)] (RN l m) := by
 have hb := h.2
 refine cf_tree (c := c40) (n := 300) (t := t40) mo ov rfl (fun Y _ => known0 _) (by kernel_rfl) fun Y hf hg => ?_
 unfold t40
 refine VOK_lt (len44 h) rfl (VOK_lt (run_geq ..) rfl (VOK_ite rfl (fun h1 => VOK_fin rfl ⟨0, n, rfl, hm, hn⟩) (fun h1 => ?_)))
 have h1 : n < l.length := by simpa using h1
 refine VOK_lt (add_c (by omega) (by omega)) rfl (VOK_lt (sub_c (z := n) (by omega) (by omega) (by omega)) rfl (VOK_lt (ia44 h h1) (encL_ok okC8 _) (VOK_lt (ld5 h1) rfl (VOK_lt (cv5_3 _ (UInt8.toNat_lt _)) rfl (VOK_lt (run_rem _ _ hm (by omega) ..) rfl (VOK_fin rfl ⟨_, n + 1, rfl, Nat.mod_lt _ hm, h1⟩))))))
def W13 : List Int := [0, 1, 2, 3, -1, 7, 32767, -32768, 2147483647, -2147483648, 100, 9223372036854775807, -9223372036854775808]
def R15 : List AV := [.flt .f64 0, .flt .f64 9223372036854775808, .flt .f64 4607182418800017408, .flt .f64 13830554455654793216, .flt .f64 4602678819172646912, .flt .f64 4612811918334230528, .flt .f64 13838998704956112896, .flt .f64 9094988921128908188, .flt .f64 2024, .flt .f64 9218868437227405312, .flt .f64 18442240474082181120, .nan .f64, .flt .f64 4674736413210574848, .flt .f64 4891288408196988160, .flt .f64 4636737291354636288]
theorem w39_2_0 : Pure Try.prog 39 [.int .i64 2, .int .i64 0] (.int .i64 0) := memo_ok (n := 3000) mo ov (by kernel_rfl)
theorem w39_2_1 : Pure Try.prog 39 [.int .i64 2, .int .i64 1] (.int .i64 1) := memo_ok (n := 3000) mo ov (by kernel_rfl)
theorem w39_2_2 : Pure Try.prog 39 [.int .i64 2, .int .i64 2] (.int .i64 2) := memo_ok (n := 3000) mo ov (by kernel_rfl)
theorem w39_2_3 : Pure Try.prog 39 [.int .i64 2, .int .i64 3] (.int .i64 3) := memo_ok (n := 3000) mo ov (by kernel_rfl)
theorem w39_2_4 : Pure Try.prog 39 [.int .i64 2, .int .i64 (-1)] (.int .i64 (-1)) := memo_ok (n := 3000) mo ov (by kernel_rfl)
theorem w39_2_5 : Pure Try.prog 39 [.int .i64 2, .int .i64 7] (.int .i64 7) := memo_ok (n := 3000) mo ov (by kernel_rfl)
theorem w39_2_6 : Pure Try.prog 39 [.int .i64 2, .int .i64 32767] (.int .i64 32767) := memo_ok (n := 3000) mo ov (by kernel_rfl)
theorem w39_2_7 : Pure Try.prog 39 [.int .i64 2, .int .i64 (-32768)] (.int .i64 (-32768)) := memo_ok (n := 3000) mo ov (by kernel_rfl)
theorem w39_2_8 : Pure Try.prog 39 [.int .i64 2, .int .i64 2147483647] (.int .i64 (-1)) := memo_ok (n := 3000) mo ov (by kernel_rfl)
theorem w39_2_9 : Pure Try.prog 39 [.int .i64 2, .int .i64 (-2147483648)] (.int .i64 0) := memo_ok (n := 3000) mo ov (by kernel_rfl)
theorem w39_2_10 : Pure Try.prog 39 [.int .i64 2, .int .i64 100] (.int .i64 100) := memo_ok (n := 3000) mo ov (by kernel_rfl)
theorem w39_2_11 : Pure Try.prog 39 [.int .i64 2, .int .i64 9223372036854775807] (.int .i64 (-1)) := memo_ok (n := 3000) mo ov (by kernel_rfl)
theorem w39_2_12 : Pure Try.prog 39 [.int .i64 2, .int .i64 (-9223372036854775808)] (.int .i64 0) := memo_ok (n := 3000) mo ov (by kernel_rfl)
theorem w39_3_0 : Pure Try.prog 39 [.int .i64 3, .int .i64 0] (.int .i64 0) := memo_ok (n := 3000) mo ov (by kernel_rfl)
theorem w39_3_1 : Pure Try.prog 39 [.int .i64 3, .int .i64 1] (.int .i64 1) := memo_ok (n := 3000) mo ov (by kernel_rfl)
theorem w39_3_2 : Pure Try.prog 39 [.int .i64 3, .int .i64 2] (.int .i64 2) := memo_ok (n := 3000) mo ov (by kernel_rfl)
theorem w39_3_3 : Pure Try.prog 39 [.int .i64 3, .int .i64 3] (.int .i64 3) := memo_ok (n := 3000) mo ov (by kernel_rfl)
theorem w39_3_4 : Pure Try.prog 39 [.int .i64 3, .int .i64 (-1)] (.int .i64 (-1)) := memo_ok (n := 3000) mo ov (by kernel_rfl)
theorem w39_3_5 : Pure Try.prog 39 [.int .i64 3, .int .i64 7] (.int .i64 7) := memo_ok (n := 3000) mo ov (by kernel_rfl)
theorem w39_3_6 : Pure Try.prog 39 [.int .i64 3, .int .i64 32767] (.int .i64 32767) := memo_ok (n := 3000) mo ov (by kernel_rfl)
theorem w39_3_7 : Pure Try.prog 39 [.int .i64 3, .int .i64 (-32768)] (.int .i64 (-32768)) := memo_ok (n := 3000) mo ov (by kernel_rfl)
theorem w39_3_8 : Pure Try.prog 39 [.int .i64 3, .int .i64 2147483647] (.int .i64 2147483647) := memo_ok (n := 3000) mo ov (by kernel_rfl)
theorem w39_3_9 : Pure Try.prog 39 [.int .i64 3, .int .i64 (-2147483648)] (.int .i64 (-2147483648)) := memo_ok (n := 3000) mo ov (by kernel_rfl)
theorem w39_3_10 : Pure Try.prog 39 [.int .i64 3, .int .i64 100] (.int .i64 100) := memo_ok (n := 3000) mo ov (by kernel_rfl)
theorem w39_3_11 : Pure Try.prog 39 [.int .i64 3, .int .i64 9223372036854775807] (.int .i64 (-1)) := memo_ok (n := 3000) mo ov (by kernel_rfl)
theorem w39_3_12 : Pure Try.prog 39 [.int .i64 3, .int .i64 (-9223372036854775808)] (.int .i64 0) := memo_ok (n := 3000) mo ov (by kernel_rfl)
theorem w39_4_0 : Pure Try.prog 39 [.int .i64 4, .int .i64 0] (.int .i64 0) := memo_ok (n := 3000) mo ov (by kernel_rfl)
theorem w39_4_1 : Pure Try.prog 39 [.int .i64 4, .int .i64 1] (.int .i64 1) := memo_ok (n := 3000) mo ov (by kernel_rfl)
theorem w39_4_2 : Pure Try.prog 39 [.int .i64 4, .int .i64 2] (.int .i64 2) := memo_ok (n := 3000) mo ov (by kernel_rfl)
theorem w39_4_3 : Pure Try.prog 39 [.int .i64 4, .int .i64 3] (.int .i64 3) := memo_ok (n := 3000) mo ov (by kernel_rfl)
theorem w39_4_4 : Pure Try.prog 39 [.int .i64 4, .int .i64 (-1)] (.int .i64 (-1)) := memo_ok (n := 3000) mo ov (by kernel_rfl)
theorem w39_4_5 : Pure Try.prog 39 [.int .i64 4, .int .i64 7] (.int .i64 7) := memo_ok (n := 3000) mo ov (by kernel_rfl)
theorem w39_4_6 : Pure Try.prog 39 [.int .i64 4, .int .i64 32767] (.int .i64 32767) := memo_ok (n := 3000) mo ov (by kernel_rfl)
theorem w39_4_7 : Pure Try.prog 39 [.int .i64 4, .int .i64 (-32768)] (.int .i64 (-32768)) := memo_ok (n := 3000) mo ov (by kernel_rfl)
theorem w39_4_8 : Pure Try.prog 39 [.int .i64 4, .int .i64 2147483647] (.int .i64 2147483647) := memo_ok (n := 3000) mo ov (by kernel_rfl)
theorem w39_4_9 : Pure Try.prog 39 [.int .i64 4, .int .i64 (-2147483648)] (.int .i64 (-2147483648)) := memo_ok (n := 3000) mo ov (by kernel_rfl)
theorem w39_4_10 : Pure Try.prog 39 [.int .i64 4, .int .i64 100] (.int .i64 100) := memo_ok (n := 3000) mo ov (by kernel_rfl)
theorem w39_4_11 : Pure Try.prog 39 [.int .i64 4, .int .i64 9223372036854775807] (.int .i64 9223372036854775807) := memo_ok (n := 3000) mo ov (by kernel_rfl)
theorem w39_4_12 : Pure Try.prog 39 [.int .i64 4, .int .i64 (-9223372036854775808)] (.int .i64 (-9223372036854775808)) := memo_ok (n := 3000) mo ov (by kernel_rfl)
theorem w39 {k : Int} (hk : k = 2 ∨ k = 3 ∨ k = 4) {x : Int} (hx : x ∈ W13) : ∃ r : Int, Pure Try.prog 39 [.int .i64 k, .int .i64 x] (.int .i64 r) := by
 simp only [W13, List.mem_cons, List.not_mem_nil, or_false] at hx
 rcases hk with rfl | rfl | rfl <;> rcases hx with rfl | rfl | rfl | rfl | rfl | rfl | rfl | rfl | rfl | rfl | rfl | rfl | rfl
 ·exact ⟨_, w39_2_0⟩
 ·exact ⟨_, w39_2_1⟩
 ·exact ⟨_, w39_2_2⟩
 ·exact ⟨_, w39_2_3⟩
 ·exact ⟨_, w39_2_4⟩
 ·exact ⟨_, w39_2_5⟩
 ·exact ⟨_, w39_2_6⟩
 ·exact ⟨_, w39_2_7⟩
 ·exact ⟨_, w39_2_8⟩
 ·exact ⟨_, w39_2_9⟩
 ·exact ⟨_, w39_2_10⟩
 ·exact ⟨_, w39_2_11⟩
 ·exact ⟨_, w39_2_12⟩
 ·exact ⟨_, w39_3_0⟩
 ·exact ⟨_, w39_3_1⟩
 ·exact ⟨_, w39_3_2⟩
 ·exact ⟨_, w39_3_3⟩
 ·exact ⟨_, w39_3_4⟩
 ·exact ⟨_, w39_3_5⟩
 ·exact ⟨_, w39_3_6⟩
 ·exact ⟨_, w39_3_7⟩
 ·exact ⟨_, w39_3_8⟩
 ·exact ⟨_, w39_3_9⟩
 ·exact ⟨_, w39_3_10⟩
 ·exact ⟨_, w39_3_11⟩
 ·exact ⟨_, w39_3_12⟩
 ·exact ⟨_, w39_4_0⟩
 ·exact ⟨_, w39_4_1⟩
 ·exact ⟨_, w39_4_2⟩
 ·exact ⟨_, w39_4_3⟩
 ·exact ⟨_, w39_4_4⟩
 ·exact ⟨_, w39_4_5⟩
 ·exact ⟨_, w39_4_6⟩
 ·exact ⟨_, w39_4_7⟩
 ·exact ⟨_, w39_4_8⟩
 ·exact ⟨_, w39_4_9⟩
 ·exact ⟨_, w39_4_10⟩
 ·exact ⟨_, w39_4_11⟩
 ·exact ⟨_, w39_4_12⟩
theorem w36_0 : Pure Try.prog 36 [.flt .f64 0, .flt .f64 0] (.bool true) := memo_ok (n := 3000) mo ov (by kernel_rfl)
theorem w36_1 : Pure Try.prog 36 [.flt .f64 9223372036854775808, .flt .f64 9223372036854775808] (.bool true) := memo_ok (n := 3000) mo ov (by kernel_rfl)
theorem w36_2 : Pure Try.prog 36 [.flt .f64 4607182418800017408, .flt .f64 4607182418800017408] (.bool true) := memo_ok (n := 3000) mo ov (by kernel_rfl)
theorem w36_3 : Pure Try.prog 36 [.flt .f64 13830554455654793216, .flt .f64 13830554455654793216] (.bool true) := memo_ok (n := 3000) mo ov (by kernel_rfl)
theorem w36_4 : Pure Try.prog 36 [.flt .f64 4602678819172646912, .flt .f64 4602678819172646912] (.bool true) := memo_ok (n := 3000) mo ov (by kernel_rfl)
theorem w36_5 : Pure Try.prog 36 [.flt .f64 4612811918334230528, .flt .f64 4612811918334230528] (.bool true) := memo_ok (n := 3000) mo ov (by kernel_rfl)
theorem w36_6 : Pure Try.prog 36 [.flt .f64 13838998704956112896, .flt .f64 13838998704956112896] (.bool true) := memo_ok (n := 3000) mo ov (by kernel_rfl)
theorem w36_7 : Pure Try.prog 36 [.flt .f64 9094988921128908188, .flt .f64 9094988921128908188] (.bool true) := memo_ok (n := 3000) mo ov (by kernel_rfl)
theorem w36_8 : Pure Try.prog 36 [.flt .f64 2024, .flt .f64 2024] (.bool true) := memo_ok (n := 3000) mo ov (by kernel_rfl)
theorem w36_9 : Pure Try.prog 36 [.flt .f64 9218868437227405312, .flt .f64 9218868437227405312] (.bool true) := memo_ok (n := 3000) mo ov (by kernel_rfl)
theorem w36_10 : Pure Try.prog 36 [.flt .f64 18442240474082181120, .flt .f64 18442240474082181120] (.bool true) := memo_ok (n := 3000) mo ov (by kernel_rfl)
theorem w36_11 : Pure Try.prog 36 [.nan .f64, .nan .f64] (.bool true) := memo_ok (n := 3000) mo ov (by kernel_rfl)
theorem w36_12 : Pure Try.prog 36 [.flt .f64 4674736413210574848, .flt .f64 4674736413210574848] (.bool true) := memo_ok (n := 3000) mo ov (by kernel_rfl)
theorem w36_13 : Pure Try.prog 36 [.flt .f64 4891288408196988160, .flt .f64 4891288408196988160] (.bool true) := memo_ok (n := 3000) mo ov (by kernel_rfl)
theorem w36_14 : Pure Try.prog 36 [.flt .f64 4636737291354636288, .flt .f64 4636737291354636288] (.bool true) := memo_ok (n := 3000) mo ov (by kernel_rfl)
theorem w36 {x : AV} (hx : x ∈ R15) : Pure Try.prog 36 [x, x] (.bool true) := by
 simp only [R15, List.mem_cons, List.not_mem_nil, or_false] at hx
 rcases hx with rfl | rfl | rfl | rfl | rfl | rfl | rfl | rfl | rfl | rfl | rfl | rfl | rfl | rfl | rfl
 ·exact w36_0
 ·exact w36_1
 ·exact w36_2
 ·exact w36_3
 ·exact w36_4
 ·exact w36_5
 ·exact w36_6
 ·exact w36_7
 ·exact w36_8
 ·exact w36_9
 ·exact w36_10
 ·exact w36_11
 ·exact w36_12
 ·exact w36_13
 ·exact w36_14
theorem okR {x : AV} (hx : x ∈ R15) : okC x = true := by
 simp only [R15, List.mem_cons, List.not_mem_nil, or_false] at hx
 rcases hx with rfl | rfl | rfl | rfl | rfl | rfl | rfl | rfl | rfl | rfl | rfl | rfl | rfl | rfl | rfl <;> rfl
def c52 : VC := ⟨⟨[], []⟩, [(39, [none])], [], 1, true, [(40, ft40)]⟩
def t52 : VT :=
 (.callF 40 ft40 [64, 65, J 13] 67
 (.cons 2
 (.lt (.iaddr 84) [.vsl 13 1 [J 0, J 1, J 2, J 3, .int .i64 (-1), J 7, J 32767, .int .i64 (-32768), J 2147483647, .int .i64 (-2147483648), J 100, J 9223372036854775807, .int .i64 (-9223372036854775808)], 70] 72 none
 (.lt (.load 2) [72] 73 none
 (.call 39 [66, 73] 74 [none]
 (.done (.tup [J 0, 74, 71])))))
 .nil))
def c51 : VC := ⟨⟨[], []⟩, [], [], 1, true, [(40, ft40)]⟩
def t51 : VT :=
 (.callF 40 ft40 [64, 65, J 15] 66
 (.cons 2
 (.lt (.iaddr 83) [.vsl 15 1 [.flt .f64 0, .flt .f64 9223372036854775808, .flt .f64 4607182418800017408, .flt .f64 13830554455654793216, .flt .f64 4602678819172646912, .flt .f64 4612811918334230528, .flt .f64 13838998704956112896, .flt .f64 9094988921128908188, .flt .f64 2024, .flt .f64 9218868437227405312, .flt .f64 18442240474082181120, .nan .f64, .flt .f64 4674736413210574848, .flt .f64 4891288408196988160, .flt .f64 4636737291354636288], 69] 71 none
 (.lt (.load 23) [71] 72 none
 (.done (.tup [J 0, 72, 70]))))
 .nil))
def encI (n : Int) : List AV := [.int .i64 n]
def enc1 (x : AV) : List AV := [x]
theorem p52 {l : List UInt8} {a : AV} {n : Nat} {k : Int} (h : Pk l a) (hn : n ≤ l.length) (hk : k = 2 ∨ k = 3 ∨ k = 4) : CF Try.prog 52 ft52 [a, .int .i64 (n : Int), .int .i64 k] (fun _ ws => ∃ (r : Int) (n' : Nat), ws = [.int .i64 r, .int .i64 (n' : Int)] ∧ n' ≤ l.length) := by
 have hA := h.1.ok okC8
 refine cf_tree (c := c52) (n := 300) (t := t52) mo ov rfl (fun Y _ => known0 _) (by kernel_rfl) fun Y hf hg => ?_
 unfold t52
 refine callF' (p40 (m := 13) h hn (by decide) (by decide)) rfl (by simp only [okL, okC, hA]) ⟨?_, trivial⟩
 rintro ws ⟨v, n', rfl, hv, hn'⟩
 have hv' : v < W13.length := hv
 obtain ⟨r, hr⟩ := w39 hk (List.getElem_mem hv')
 refine VOK_lt (run_iaddr_sl (enc := encI) (w := 1) (e := 2) (ti := (Try.prog.info? 2).get!) (l := W13) Try.underlying84 (by kernel_rfl) (by kernel_rfl) (fun _ => rfl) hv' .i64) (encL_ok (fun _ => rfl) _) ?_
 rw [List.drop_eq_getElem_cons hv']
 exact VOK_lt (run_load_one Try.underlying2 rfl _ _) rfl (VOK_call hr rfl rfl (VOK_fin rfl ⟨r, n', rfl, hn'⟩))
theorem p51 {l : List UInt8} {a : AV} {n : Nat} (h : Pk l a) (hn : n ≤ l.length) : CF Try.prog 51 ft51 [a, .int .i64 (n : Int)] (fun _ ws => ∃ (x : AV) (n' : Nat), ws = [x, .int .i64 (n' : Int)] ∧ x ∈ R15 ∧ n' ≤ l.length) := by
 have hA := h.1.ok okC8
 refine cf_tree (c := c51) (n := 300) (t := t51) mo ov rfl (fun Y _ => known0 _) (by kernel_rfl) fun Y hf hg => ?_
 unfold t51
 refine callF' (p40 (m := 15) h hn (by decide) (by decide)) rfl (by simp only [okL, okC, hA]) ⟨?_, trivial⟩
 rintro ws ⟨v, n', rfl, hv, hn'⟩
 have hv' : v < R15.length := hv
 have hx := List.getElem_mem hv'
 have hall : ∀ i, okL (encL enc1 (R15.drop i)) = true := fun i => by
  have : ∀ q : List AV, (∀ x ∈ q, x ∈ R15) → okL (encL enc1 q) = true := fun q => by
   induction q with
   | nil => intro _; rfl
   | cons x r ih => intro hq; exact encL_ok.okL_join (by show okL [x] = true; simp only [okL, okR (hq x (List.mem_cons_self ..))]) (ih fun y hy => hq y (List.mem_cons_of_mem _ hy))
  exact this _ fun x hx => List.mem_of_mem_drop hx
 refine VOK_lt (run_iaddr_sl (enc := enc1) (w := 1) (e := 23) (ti := (Try.prog.info? 23).get!) (l := R15) Try.underlying83 (by kernel_rfl) (by kernel_rfl) (fun _ => rfl) hv' .i64) (hall v) ?_
 rw [List.drop_eq_getElem_cons hv']
 refine VOK_lt (run_load_one Try.underlying23 rfl _ _) (okR hx) (VOK_fin ?_ ⟨_, n', rfl, hx, hn'⟩)
 show okL [R15[v], .int .i64 (n' : Int)] = true
 simp only [okL, okR hx]; rfl
structure GV where
 k : Int
 i : Int
 f : AV
def encV (v : GV) : List AV := [.int .i64 v.k, .int .i64 v.i, v.f]
theorem lenV (v : GV) : (encV v).length = 3 := rfl
def OkV (v : GV) : Prop := 1 ≤ v.k ∧ v.k ≤ 5 ∧ v.f ∈ R15
theorem okV {v : GV} (h : OkV v) : okL (encV v) = true := by
 have := okR h.2.2
 simp only [encV, okL, okC, this]
def RV (l : List UInt8) : Nat → List AV → Prop := fun _ ws => ∃ (v : GV) (n' : Nat), ws = encV v ++ [.int .i64 (n' : Int)] ∧ OkV v ∧ n' ≤ l.length
def c41 : VC := ⟨⟨[], []⟩, [], [], 1, true, [(40, ft40), (51, ft51), (52, ft52)]⟩
def t41 : VT :=
 (.lt (.bin .eql 3 false true) [66, J 1] 67 none
 (.ite 67
 (.callF 40 ft40 [64, 65, J 2] 68
 (.cons 2
 (.done (.tup [J 0, J 1, 71, .flt .f64 0, 72]))
 .nil))
 (.lt (.bin .eql 3 false true) [66, J 5] 68 none
 (.ite 68
 (.callF 51 ft51 [64, 65] 69
 (.cons 2
 (.done (.tup [J 0, J 5, J 0, 71, 72]))
 .nil))
 (.callF 52 ft52 [64, 65, 66] 69
 (.cons 2
 (.done (.tup [J 0, 66, 72, .flt .f64 0, 73]))
 .nil))))))
theorem r15_0 : (.flt .f64 0 : AV) ∈ R15 := List.mem_cons_self ..
theorem p41 {l : List UInt8} {a : AV} {n : Nat} {k : Int} (h : Pk l a) (hn : n ≤ l.length) (h1 : 1 ≤ k) (h5 : k ≤ 5) : CF Try.prog 41 ft41 [a, .int .i64 (n : Int), .int .i64 k] (RV l) := by
 have hA := h.1.ok okC8
 refine cf_tree (c := c41) (n := 300) (t := t41) mo ov rfl (fun Y _ => known0 _) (by kernel_rfl) fun Y hf hg => ?_
 unfold t41
 refine VOK_lt (run_eql ..) rfl (VOK_ite rfl (fun e => ?_) (fun e => ?_))
 ·refine callF' (p40 (m := 2) h hn (by decide) (by decide)) rfl (by simp only [okL, okC, hA]) ⟨?_, trivial⟩
  rintro ws ⟨v, n', rfl, hv, hn'⟩
  exact VOK_fin rfl ⟨⟨1, v, .flt .f64 0⟩, n', rfl, ⟨Int.le_refl 1, (by decide : (1 : Int) ≤ 5), r15_0⟩, hn'⟩
 refine VOK_lt (run_eql ..) rfl (VOK_ite rfl (fun e5 => ?_) (fun e5 => ?_))
 ·refine callF' (p51 h hn) rfl (by simp only [okL, okC, hA]) ⟨?_, trivial⟩
  rintro ws ⟨x, n', rfl, hx, hn'⟩
  refine VOK_fin ?_ ⟨⟨5, 0, x⟩, n', rfl, ⟨(by decide : (1 : Int) ≤ 5), Int.le_refl 5, hx⟩, hn'⟩
  show okL [.int .i64 5, .int .i64 0, x, .int .i64 (n' : Int)] = true
  simp only [okL, okC, okR hx]
 have e : ¬ k = 1 := by simpa using e
 have e5 : ¬ k = 5 := by simpa using e5
 refine callF' (p52 h hn (by omega)) rfl (by simp only [okL, okC, hA]) ⟨?_, trivial⟩
 rintro ws ⟨r, n', rfl, hn'⟩
 exact VOK_fin rfl ⟨⟨k, r, .flt .f64 0⟩, n', rfl, ⟨h1, h5, r15_0⟩, hn'⟩
end Go.Proofs.Ytbceomdmpbmnkaa.vars
