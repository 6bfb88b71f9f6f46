/-
  What functions take and leave that take rows.
-/
import Derived.Test.YtjconanknjgpnaaSyQ
import Derived.Test.YtjconanknjgpnaaRows
import Derived.KernelRfl
import Derived.Test.YtjconanknjgpnaaSyU
import Derived.Test.YtjconanknjgpnaaSyG
set_option linter.unusedVariables false
namespace Go.Proofs.Ytjconanknjgpnaa.vars
open Go Go.Sx
def hs : Nat → Nat → List AV
 | _, 0 => []
 | j, n + 1 => .slx j 0 0 :: hs (j + 1) n
def pk (a b : AV) : Nat × List AV := (0, [a, b])
def ft64 : FT := ⟨1, ⟨[(0, .ptr 0 0), (1, .slx 2 0 0)], [pk (.slx 0 0 0) (.slx 1 0 0)], 1, 3, [], [], []⟩, [(false, ⟨[(0, .slx 0 0 0)], [pk (.sym 64) (.slx 1 0 0)], 1, 2, [], [], []⟩)]⟩
def ftX : FT := ⟨1, ⟨[(0, .ptr 0 0), (1, .slx 2 0 0), (2, .slx 3 0 0)], [pk (.slx 0 0 0) (.slx 1 0 0)], 1, 4, [], [], []⟩, [(false, ⟨[(0, .agg (hs 0 10))], [pk (.sym 64) (.slx 10 0 0)], 1, 11, [], [], []⟩)]⟩
def ft81 : FT := ftX
def ft83 : FT := ftX
def ft65 : FT := ⟨1, ⟨[(0, .ptr 0 0), (1, .slx 2 0 0)], [pk (.slx 0 0 0) (.slx 1 0 0)], 1, 3, [], [], []⟩, [(false, ⟨[(0, .agg (hs 0 27))], [pk (.sym 64) (.slx 27 0 0)], 1, 28, [], [], []⟩)]⟩
def ft38 : FT := ⟨1, ⟨[(0, .ptr 0 0), (1, .slx 2 0 0), (2, .slx 3 0 0)], [pk (.slx 0 0 0) (.slx 1 0 0)], 1, 4, [], [], []⟩, [(false, ⟨[(0, .slx 1 27 0)], [pk (.sym 64) (.slx 1 0 0)], 2, 2, [⟨1, 27, 0, 0, none⟩], [], []⟩)]⟩
def ft19 : FT := ⟨1, ⟨[(0, .ptr 0 0)], [pk (.slx 0 0 0) (.slx 1 0 0)], 1, 2, [], [], []⟩, [(false, ⟨[(0, .agg (hs 0 2))], [pk (.sym 64) (.slx 2 0 0)], 1, 3, [], [], []⟩)]⟩
def ft18 : FT := ⟨0, ⟨[(0, .slx 0 0 0)], [], 0, 1, [], [], []⟩, [(false, ⟨[(0, .ptr 0 0)], [pk (.sym 64) (.int .i64 0)], 1, 0, [], [], []⟩)]⟩
def ft80 : FT := ⟨0, ⟨[(0, .slx 0 0 0), (1, .agg (hs 1 10))], [], 0, 11, [], [], []⟩, [(false, ⟨[(0, .tup [.agg (hs 0 10), .slx 10 0 0])], [], 0, 11, [], [], []⟩)]⟩
def ft90 : FT := ft80
def ft91 : FT := ⟨0, ⟨[(0, .slx 0 0 0), (1, .agg (hs 1 10)), (2, .slx 11 0 0)], [], 0, 12, [], [], []⟩, [(false, ⟨[(0, .tup [.agg (hs 0 10), .slx 10 0 0])], [], 0, 11, [], [], []⟩)]⟩
def ft63 : FT := ⟨0, ⟨[(0, .slx 0 0 0), (1, .agg (hs 1 27))], [], 0, 28, [], [], []⟩, [(false, ⟨[(0, .tup [.agg (hs 0 27), .slx 27 0 0])], [], 0, 28, [], [], []⟩)]⟩
def ft78 : FT := ft63
def ft79 : FT := ft63
def ft36 : FT := ⟨0, ⟨[(0, .slx 0 0 0), (1, .slx 1 0 0)], [], 0, 2, [], [], []⟩, [(false, ⟨[(0, .tup [.slx 0 0 0, .slx 1 0 0])], [], 0, 2, [], [], []⟩)]⟩
def ft17 : FT := ⟨0, ⟨[(0, .agg (hs 0 2))], [], 0, 2, [], [], []⟩, [(false, ⟨[(0, .tup [.agg (hs 0 2), .slx 2 0 0])], [], 0, 3, [], [], []⟩)]⟩
def ft7 : FT := ⟨0, ⟨[(0, .slx 0 0 0)], [], 0, 1, [], [], []⟩, [(false, ⟨[(0, .tup [.agg (hs 0 2), .slx 2 0 0])], [], 0, 3, [], [], []⟩)]⟩
def ft22 : FT := ⟨1, ⟨[(0, .ptr 0 0), (1, .agg (hs 1 7))], [(0, [.slx 1 7 0])], 2, 8, [⟨1, 7, 0, 0, some 0⟩], [], []⟩, [(false, ⟨[(0, .slx 0 0 0)], [(0, [.slx 1 7 1])], 2, 2, [⟨1, 7, 1, 0, some 0⟩], [], []⟩)]⟩
def ft24 : FT := ⟨1, ⟨[(0, .ptr 0 0), (1, .agg (hs 1 10))], [(0, [.slx 1 7 0])], 2, 11, [⟨1, 7, 0, 0, some 0⟩], [], []⟩, [(false, ⟨[(0, .tup [])], [(0, [.slx 1 7 0])], 2, 1, [⟨1, 7, 0, 0, some 0⟩], [], []⟩)]⟩
def ft39 : FT := ⟨1, ⟨[(0, .ptr 0 0), (1, .agg (hs 1 27))], [(0, [.slx 1 7 0])], 2, 28, [⟨1, 7, 0, 0, some 0⟩], [], []⟩, [(false, ⟨[(0, .tup [])], [(0, [.slx 1 7 0])], 2, 1, [⟨1, 7, 0, 0, some 0⟩], [], []⟩)]⟩
def ft40 : FT := ft39
def ft41 : FT := ft39
def ft21 : FT := ⟨1, ⟨[(0, .ptr 0 0), (1, .slx 1 0 0)], [(0, [.slx 1 7 0])], 2, 2, [⟨1, 7, 0, 0, some 0⟩], [], []⟩, [(false, ⟨[(0, .tup [])], [(0, [.slx 1 7 0])], 2, 1, [⟨1, 7, 0, 0, some 0⟩], [], []⟩)]⟩
end Go.Proofs.Ytjconanknjgpnaa.vars
set_option maxRecDepth 100000
set_option linter.unusedVariables false
set_option linter.unusedSimpArgs false
namespace Go.Proofs.Ytjconanknjgpnaa.vars
open Go Go.Sx
instance gI : Gl := glT gl0 nr0 []
theorem mo : Try.prog.follows .mixedOrders = true := by kernel_rfl
theorem ov : OvOk Try.prog := ov_nil gl0 nr0 _
inductive GX where
 | mk (op kd : Int) (nm fd : List UInt8) (ad n vk vi : Int) (vf : Nat) (args : List GX)
mutual
def encX : GX → List AV
 | .mk op kd nm fd ad n vk vi vf args => [.int .i64 op, .int .i64 kd, .str nm, .str fd, .int .i64 ad, .int .i64 n, .int .i64 vk, .int .i64 vi, .flt .f64 vf, encA args]
def encA : List GX → AV
 | [] => .nsl
 | a :: r => .vsl (r.length + 1) 10 (encX a ++ encXs r)
def encXs : List GX → List AV
 | [] => []
 | a :: r => encX a ++ encXs r
end
theorem encXs_eq : ∀ l : List GX, encXs l = encL encX l
 | [] => rfl
 | a :: r => by simp only [encXs, encL, encXs_eq r]
theorem encA_eq (l : List GX) : encA l = sliceOf encX 10 l := by
 cases l with
 | nil => rfl
 | cons a r => simp only [encA, sliceOf, encL, encXs_eq]
theorem lenX (x : GX) : (encX x).length = 10 := by cases x; simp [encX]
mutual
theorem okX : ∀ x : GX, okL (encX x) = true
 | .mk op kd nm fd ad n vk vi vf args => by simp only [encX, okL, okC, okA args]
theorem okA : ∀ l : List GX, okC (encA l) = true
 | [] => rfl
 | a :: r => by simp only [encA, okC]; exact encL_ok.okL_join (okX a) (okXs r)
theorem okXs : ∀ l : List GX, okL (encXs l) = true
 | [] => rfl
 | a :: r => by simp only [encXs]; exact encL_ok.okL_join (okX a) (okXs r)
end
inductive GS where
 | mk (op : Int) (to e : GX) (thn els : List GS) (nm : List UInt8) (kd ad : Int) (args : List GX)
mutual
def encS : GS → List AV
 | .mk op to e thn els nm kd ad args => .int .i64 op :: (encX to ++ (encX e ++ [encB thn, encB els, .str nm, .int .i64 kd, .int .i64 ad, encA args]))
def encB : List GS → AV
 | [] => .nsl
 | a :: r => .vsl (r.length + 1) 27 (encS a ++ encSs r)
def encSs : List GS → List AV
 | [] => []
 | a :: r => encS a ++ encSs r
end
theorem encSs_eq : ∀ l : List GS, encSs l = encL encS l
 | [] => rfl
 | a :: r => by simp only [encSs, encL, encSs_eq r]
theorem encB_eq (l : List GS) : encB l = sliceOf encS 27 l := by
 cases l with
 | nil => rfl
 | cons a r => simp only [encB, sliceOf, encL, encSs_eq]
theorem lenS (x : GS) : (encS x).length = 27 := by cases x; simp [encS, lenX]
mutual
theorem okS : ∀ x : GS, okL (encS x) = true
 | .mk op to e thn els nm kd ad args => by
   simp only [encS]
   refine encL_ok.okL_join (a := [_]) rfl (encL_ok.okL_join (okX to) (encL_ok.okL_join (okX e) ?_))
   simp only [okL, okC, okA args, okB thn, okB els]
theorem okB : ∀ l : List GS, okC (encB l) = true
 | [] => rfl
 | a :: r => by simp only [encB, okC]; exact encL_ok.okL_join (okS a) (okSs r)
theorem okSs : ∀ l : List GS, okL (encSs l) = true
 | [] => rfl
 | a :: r => by simp only [encSs]; exact encL_ok.okL_join (okS a) (okSs r)
end
def Ari (op : Int) (n : Nat) : Prop := (op = 1 ∨ op = 2) ∧ n = 0 ∨ (op = 3 ∨ op = 15 ∨ op = 16 ∨ op = 17) ∧ n = 1 ∨ (4 ≤ op ∧ op ≤ 14) ∧ n = 2
def Flt4 (f : Nat) : Prop := f = 0 ∨ f = 4609434218613702656 ∨ f = 4611686018427387904 ∨ f = 4598175219545276416
def GX.op : GX → Int | .mk op .. => op
def GX.kd : GX → Int | .mk _ kd .. => kd
def loads : List (List UInt8 × List UInt8) := [([98], []), ([113], []), ([116, 109], [113]), ([97], []), ([120], []), ([111], []), ([99], [99, 118]), ([121], []), ([116, 109], [101, 116]), ([119], []), ([122], [])]
def LitOk (vk vi : Int) (vf : Nat) : Prop := (vk = 1 ∨ vk = 3 ∨ vk = 4 ∨ vk = 5) ∧ 0 ≤ vi ∧ vi < 50 ∧ (vk = 1 → vi ≤ 1) ∧ (vk = 5 → vi = 0) ∧ (vk ≠ 5 → vf = 0)
def Nod (op kd : Int) (nm fd : List UInt8) (vk vi : Int) (vf : Nat) : Prop := (op = 1 → LitOk vk vi vf) ∧ (op = 2 → (nm, fd) ∈ loads) ∧ (op = 3 → nm = [107]) ∧ (op = 17 → 2 ≤ kd ∧ kd ≤ 5)
def WX : Nat → GX → Prop
 | 0, _ => False
 | d + 1, .mk op kd nm fd _ _ vk vi vf args => Ari op args.length ∧ Flt4 vf ∧ Nod op kd nm fd vk vi vf ∧ ∀ a ∈ args, WX d a
theorem WX_mono : ∀ {d e : Nat} {x : GX}, d ≤ e → WX d x → WX e x
 | 0, _, _, _, h => h.elim
 | d + 1, 0, _, h, _ => by omega
 | d + 1, e + 1, .mk .., h, ⟨h1, h2, h3, h4⟩ => ⟨h1, h2, h3, fun a ha => WX_mono (by omega) (h4 a ha)⟩
def WS : Nat → GS → Prop
 | 0, _ => False
 | d + 1, .mk op to e thn els nm kd ad args =>
   (op = 1 ∧ WX 5 to ∧ (to.op = 2 ∨ to.op = 3) ∧ WX 5 e) ∨
   ((op = 2 ∨ op = 3) ∧ WX 5 e ∧ thn.length ≤ 5 ∧ els.length ≤ 5 ∧ (∀ s ∈ thn, WS d s) ∧ ∀ s ∈ els, WS d s) ∨
   (op = 4 ∧ (nm = [116, 109] ∨ nm = [99] ∨ nm = [101]) ∧ args.length ≤ 2 ∧ ∀ a ∈ args, WX 5 a)
def encC (c : UInt8) : List AV := [.int .u8 (c.toNat : Int)]
theorem lenC (c : UInt8) : (encC c).length = 1 := rfl
theorem okC8 (c : UInt8) : okL (encC c) = true := rfl
def Pk (l : List UInt8) (a : AV) : Prop := SlV encC 1 l a ∧ l.length ≤ 9223372036854775807
section
variable {l : List UInt8} {a : AV}
theorem len22 (h : Pk l a) : (XOp.len 22).run Try.prog [a] = some (.int .i64 (l.length : Int)) := h.1.len Try.underlying22
theorem ia22 (h : Pk l a) {i : Nat} (hi : i < l.length) {k : IntKind} : (XOp.iaddr 22).run Try.prog [a, .int k (i : Int)] = some (.vptr (encL encC (l.drop i))) := h.1.ia (e := 5) Try.underlying22 (ti := (Try.prog.info? 5).get!) (by kernel_rfl) (by kernel_rfl) lenC hi k
theorem ld5 {i : Nat} (hi : i < l.length) : (XOp.load 5).run Try.prog [.vptr (encL encC (l.drop i))] = some (.int .u8 (l[i].toNat : Int)) := by
 rw [List.drop_eq_getElem_cons hi]
 exact run_load_one Try.underlying5 rfl _ _
end
theorem cv5_3 (n : Nat) (h : n < 256) : (XOp.conv 5 3).run Try.prog [.int .u8 (n : Int)] = some (.int .i64 (n : Int)) := by
 rw [run_conv_ii Try.underlying5 Try.underlying3, wrap64 (by omega) (by omega)]
theorem run_rem (x m : Nat) (h : 0 < m) (h2 : m < 9223372036854775808) (t : TypeId) (cx cy : Bool) : (XOp.bin .rem t cx cy).run Try.prog [.int .i64 (x : Int), .int .i64 (m : Int)] = some (.int .i64 ((x % m : Nat) : Int)) := by
 have : (x : Int).tmod (m : Int) = ((x % m : Nat) : Int) := by
  rw [Int.tmod_eq_emod_of_nonneg (by omega)]; rfl
 show evBin Try.prog .rem t cx cy (.int .i64 (x : Int)) (.int .i64 (m : Int)) = _
 exact rem_run (by omega) this t cx cy
theorem add_c {x y : Int} {t : TypeId} {cx cy : Bool} (h1 : -9223372036854775807 ≤ x + y) (h2 : x + y ≤ 9223372036854775807) : (XOp.bin .add t cx cy).run Try.prog [.int .i64 x, .int .i64 y] = some (.int .i64 (x + y)) := by
 rw [run_add, wrap64 (by omega) (by omega)]
theorem sub_c {x y z : Int} {t : TypeId} {cx cy : Bool} (h : x - y = z) (h1 : -9223372036854775807 ≤ z) (h2 : z ≤ 9223372036854775807) : (XOp.bin .sub t cx cy).run Try.prog [.int .i64 x, .int .i64 y] = some (.int .i64 z) := by
 rw [run_sub, h, wrap64 (by omega) (by omega)]
def RN (l : List UInt8) (m : Nat) : Nat → List AV → Prop := fun _ ws => ∃ v n : Nat, ws = [.int .i64 (v : Int), .int .i64 (n : Int)] ∧ v < m ∧ n ≤ l.length
def c64 : VC := ⟨⟨[], []⟩, [], [], 1, true, []⟩
def t64 : VT :=
 (.lt (.len 22) [.sym 64] 67 none
 (.lt (.bin .geq 3 false false) [.sym 65, .sym 67] 68 none
 (.ite 68
 (.done (.tup [.int .i64 0, .int .i64 0, .sym 65]))
 (.lt (.bin .add 3 false true) [.sym 65, .int .i64 1] 69 none
 (.lt (.bin .sub 3 false true) [.sym 69, .int .i64 1] 70 none
 (.lt (.iaddr 22) [.sym 64, .sym 70] 71 none
 (.lt (.load 5) [.sym 71] 72 none
 (.lt (.conv 5 3) [.sym 72] 73 none
 (.lt (.bin .rem 3 false false) [.sym 73, .sym 66] 74 none
 (.done (.tup [.int .i64 0, .sym 74, .sym 69])))))))))))
theorem p64 {l : List UInt8} {a : AV} {n m : Nat} (h : Pk l a) (hn : n ≤ l.length) (hm : 0 < m) (hm2 : m ≤ 1000) : CF Try.prog 64 ft64 [a, .int .i64 (n : Int), .int .i64 (m : Int)] (RN l m) := by
 have hb := h.2
 refine cf_tree (c := c64) (n := 300) (t := t64) mo ov rfl (fun Y _ => known0 _) (by kernel_rfl) fun Y hf hg => ?_
 unfold t64
 refine VOK_lt (len22 h) rfl (VOK_lt (run_geq ..) rfl (VOK_ite rfl (fun h1 => VOK_fin rfl ⟨0, n, rfl, hm, hn⟩) (fun h1 => ?_)))
 have h1 : n < l.length := by simpa using h1
 refine VOK_lt (add_c (by omega) (by omega)) rfl (VOK_lt (sub_c (z := n) (by omega) (by omega) (by omega)) rfl (VOK_lt (ia22 h h1) (encL_ok okC8 _) (VOK_lt (ld5 h1) rfl (VOK_lt (cv5_3 _ (UInt8.toNat_lt _)) rfl (VOK_lt (run_rem _ _ hm (by omega) ..) rfl (VOK_fin rfl ⟨l[n].toNat % m, n + 1, rfl, Nat.mod_lt _ hm, h1⟩))))))
end Go.Proofs.Ytjconanknjgpnaa.vars
