/-
  The law's beginning: closed.
-/
import Derived.Test.YtjconanknjgpnaaF0
import Derived.Test.YtjconanknjgpnaaV9
set_option maxRecDepth 100000
namespace Go.Proofs.Ytjconanknjgpnaa.vars
open Go Go.Sx
namespace Beg
abbrev G (l : List (FuncId × List AV × AV)) : Gl := glT gl0 nr0 l
theorem o0 : @OvOk (G []) Try.prog := ov_nil gl0 nr0 Try.prog
def z8 : AV := .int .i64 1
def z13 : AV := .int .i64 2
def z9 : AV := .int .i64 0
def z10 : AV := .flt .f64 0
def z11 : AV := .int .i64 3
def z12 : AV := .int .i64 5
def z0 : AV := .vsl 7 10 [.str [97], z8, z13, z9, z13, z9, z10, z9, z9, z10, .str [98], z8, z8, z9, z8, z9, z10, z9, z9, z10, .str [111], z13, z13, z9, z13, z8, z10, z13, .int .i64 9, z10, .str [110], z11, z13, z9, z13, z9, z10, z9, z9, z10, .str [120], z11, z13, z9, z13, z9, z10, z9, z9, z10, .str [114], z11, z12, z9, z12, z9, z10, z9, z9, z10, .str [107], z11, z13, z11, z13, z9, z10, z9, z9, z10]
def z7 : AV := .str []
def z14 : AV := .int .i64 4
def z6 : AV := .vsl 2 10 [z13, z13, .str [110], z7, z11, z9, z9, z9, z10, .nsl, z8, z13, z7, z7, z9, z9, z13, z8, z10, .nsl]
def z4 : AV := .vsl 1 27 [z8, z11, z13, .str [107], z7, .int .i64 6, z11, z9, z9, z10, .vsl 1 10 [z13, z13, .str [120], z7, z14, z9, z9, z9, z10, .nsl], z13, z13, .str [97], z7, z9, z9, z9, z9, z10, .nsl, .nsl, .nsl, z7, z9, z9, .nsl]
def z1 : AV := .vsl 4 27 [z8, z13, z13, .str [110], z7, z11, z9, z9, z9, z10, .nsl, z14, z13, z7, z7, z9, z9, z9, z9, z10, z6, .nsl, .nsl, z7, z9, z9, .nsl, z8, z13, z13, .str [111], z7, z13, z9, z9, z9, z10, .nsl, z14, z13, z7, z7, z9, z9, z9, z9, z10, .vsl 2 10 [z13, z13, .str [120], z7, z14, z9, z9, z9, z10, .nsl, z13, z13, .str [97], z7, z9, z9, z9, z9, z10, .nsl], .nsl, .nsl, z7, z9, z9, .nsl, z13, z9, z9, z7, z7, z9, z9, z9, z9, z10, .nsl, z13, z8, .str [98], z7, z8, z9, z9, z9, z10, .nsl, z4, .nsl, z7, z9, z9, .nsl, z8, z13, z12, .str [114], z7, z12, z9, z9, z9, z10, .nsl, z14, z12, z7, z7, z9, z9, z9, z9, z10, .vsl 2 10 [z13, z12, .str [114], z7, z12, z9, z9, z9, z10, .nsl, z8, z12, z7, z7, z9, z9, z12, z9, .flt .f64 4602678819172646912, .nsl], .nsl, .nsl, z7, z9, z9, .nsl]
def z5 : AV := .vsl 1 27 [z8, z11, z9, .str [107], z7, z9, z9, z9, z9, z10, .vsl 1 10 [z13, z9, .str [120], z7, z9, z9, z9, z9, z10, .nsl], z13, z9, .str [97], z7, z9, z9, z9, z9, z10, .nsl, .nsl, .nsl, z7, z9, z9, .nsl]
def z2 : AV := .vsl 4 27 [z8, z13, z9, .str [110], z7, z9, z9, z9, z9, z10, .nsl, z14, z9, z7, z7, z9, z9, z9, z9, z10, .vsl 2 10 [z13, z9, .str [110], z7, z9, z9, z9, z9, z10, .nsl, z8, z9, z7, z7, z9, z9, z11, z8, z10, .nsl], .nsl, .nsl, z7, z9, z9, .nsl, z8, z13, z9, .str [111], z7, z9, z9, z9, z9, z10, .nsl, z14, z9, z7, z7, z9, z9, z9, z9, z10, .vsl 2 10 [z13, z9, .str [120], z7, z9, z9, z9, z9, z10, .nsl, z13, z9, .str [97], z7, z9, z9, z9, z9, z10, .nsl], .nsl, .nsl, z7, z9, z9, .nsl, z13, z9, z9, z7, z7, z9, z9, z9, z9, z10, .nsl, z13, z9, .str [98], z7, z9, z9, z9, z9, z10, .nsl, z5, .nsl, z7, z9, z9, .nsl, z8, z13, z9, .str [114], z7, z9, z9, z9, z9, z10, .nsl, z14, z9, z7, z7, z9, z9, z9, z9, z10, .vsl 2 10 [z13, z9, .str [114], z7, z9, z9, z9, z9, z10, .nsl, z8, z9, z7, z7, z9, z9, z12, z9, .flt .f64 4602678819172646912, .nsl], .nsl, .nsl, z7, z9, z9, .nsl]
def z3 : AV := .str [105, 110, 32, 97, 32, 58, 32, 105, 110, 116, 59, 32, 105, 110, 32, 98, 32, 58, 32, 98, 111, 111, 108, 59, 32, 111, 117, 116, 32, 111, 32, 58, 32, 105, 110, 116, 32, 58, 61, 32, 49, 44, 32, 57, 59, 32, 118, 97, 114, 32, 110, 32, 58, 32, 105, 110, 116, 59, 32, 118, 97, 114, 32, 120, 32, 58, 32, 105, 110, 116, 59, 32, 118, 97, 114, 32, 114, 32, 58, 32, 114, 101, 97, 108, 59, 32, 118, 97, 114, 32, 107, 32, 58, 32, 105, 110, 116, 91, 51, 93, 59, 32, 110, 32, 58, 61, 32, 110, 32, 43, 32, 49, 59, 32, 111, 32, 58, 61, 32, 120, 32, 43, 32, 97, 59, 32, 105, 102, 32, 98, 32, 116, 104, 101, 110, 32, 107, 91, 120, 93, 32, 58, 61, 32, 97, 59, 32, 101, 110, 100, 32, 114, 32, 58, 61, 32, 114, 32, 43, 32, 48, 46, 53, 59]
def a0 : List AV := [z3]
def v0 : AV := .tup [.vsl 71 5 [z8, .str [105, 110], z9, z10, z9, z8, .str [97], z9, z10, z11, z12, .str [58], z9, z10, z12, z8, .str [105, 110, 116], z9, z10, .int .i64 7, z12, .str [59], z9, z10, .int .i64 10, z8, .str [105, 110], z9, z10, .int .i64 12, z8, .str [98], z9, z10, .int .i64 15, z12, .str [58], z9, z10, .int .i64 17, z8, .str [98, 111, 111, 108], z9, z10, .int .i64 19, z12, .str [59], z9, z10, .int .i64 23, z8, .str [111, 117, 116], z9, z10, .int .i64 25, z8, .str [111], z9, z10, .int .i64 29, z12, .str [58], z9, z10, .int .i64 31, z8, .str [105, 110, 116], z9, z10, .int .i64 33, z12, .str [58, 61], z9, z10, .int .i64 37, z13, z7, z8, z10, .int .i64 40, z12, .str [44], z9, z10, .int .i64 41, z13, z7, .int .i64 9, z10, .int .i64 43, z12, .str [59], z9, z10, .int .i64 44, z8, .str [118, 97, 114], z9, z10, .int .i64 46, z8, .str [110], z9, z10, .int .i64 50, z12, .str [58], z9, z10, .int .i64 52, z8, .str [105, 110, 116], z9, z10, .int .i64 54, z12, .str [59], z9, z10, .int .i64 57, z8, .str [118, 97, 114], z9, z10, .int .i64 59, z8, .str [120], z9, z10, .int .i64 63, z12, .str [58], z9, z10, .int .i64 65, z8, .str [105, 110, 116], z9, z10, .int .i64 67, z12, .str [59], z9, z10, .int .i64 70, z8, .str [118, 97, 114], z9, z10, .int .i64 72, z8, .str [114], z9, z10, .int .i64 76, z12, .str [58], z9, z10, .int .i64 78, z8, .str [114, 101, 97, 108], z9, z10, .int .i64 80, z12, .str [59], z9, z10, .int .i64 84, z8, .str [118, 97, 114], z9, z10, .int .i64 86, z8, .str [107], z9, z10, .int .i64 90, z12, .str [58], z9, z10, .int .i64 92, z8, .str [105, 110, 116], z9, z10, .int .i64 94, z12, .str [91], z9, z10, .int .i64 97, z13, z7, z11, z10, .int .i64 98, z12, .str [93], z9, z10, .int .i64 99, z12, .str [59], z9, z10, .int .i64 100, z8, .str [110], z9, z10, .int .i64 102, z12, .str [58, 61], z9, z10, .int .i64 104, z8, .str [110], z9, z10, .int .i64 107, z12, .str [43], z9, z10, .int .i64 109, z13, z7, z8, z10, .int .i64 111, z12, .str [59], z9, z10, .int .i64 112, z8, .str [111], z9, z10, .int .i64 114, z12, .str [58, 61], z9, z10, .int .i64 116, z8, .str [120], z9, z10, .int .i64 119, z12, .str [43], z9, z10, .int .i64 121, z8, .str [97], z9, z10, .int .i64 123, z12, .str [59], z9, z10, .int .i64 124, z8, .str [105, 102], z9, z10, .int .i64 126, z8, .str [98], z9, z10, .int .i64 129, z8, .str [116, 104, 101, 110], z9, z10, .int .i64 131, z8, .str [107], z9, z10, .int .i64 136, z12, .str [91], z9, z10, .int .i64 137, z8, .str [120], z9, z10, .int .i64 138, z12, .str [93], z9, z10, .int .i64 139, z12, .str [58, 61], z9, z10, .int .i64 141, z8, .str [97], z9, z10, .int .i64 144, z12, .str [59], z9, z10, .int .i64 145, z8, .str [101, 110, 100], z9, z10, .int .i64 147, z8, .str [114], z9, z10, .int .i64 151, z12, .str [58, 61], z9, z10, .int .i64 153, z8, .str [114], z9, z10, .int .i64 156, z12, .str [43], z9, z10, .int .i64 158, z11, z7, z9, .flt .f64 4602678819172646912, .int .i64 160, z12, .str [59], z9, z10, .int .i64 163], z9, .bool true]
theorem e0 : @memo (G []) Try.prog 3000 29 a0 v0 = true := by kernel_rfl
def l1 : List (FuncId × List AV × AV) := (29, a0, v0) :: []
theorem o1 : @OvOk (G l1) Try.prog := ov_cons o0 (@memo_ok (G []) Try.prog mo o0 3000 29 a0 v0 e0)
def a1 : List AV := [z3]
def v1 : AV := .tup [.agg [z0, z2], z9, .bool true]
theorem e1 : @memo (G l1) Try.prog 3000 15 a1 v1 = true := by kernel_rfl
def l2 : List (FuncId × List AV × AV) := (15, a1, v1) :: l1
theorem o2 : @OvOk (G l2) Try.prog := ov_cons o1 (@memo_ok (G l1) Try.prog mo o1 3000 15 a1 v1 e1)
def a2 : List AV := [z0, .agg [z8, z13, z9, .str [110], z7, z9, z9, z9, z9, z10, .nsl, z14, z9, z7, z7, z9, z9, z9, z9, z10, .vsl 2 10 [z13, z9, .str [110], z7, z9, z9, z9, z9, z10, .nsl, z8, z9, z7, z7, z9, z9, z11, z8, z10, .nsl], .nsl, .nsl, z7, z9, z9, .nsl]]
def v2 : AV := .tup [.agg [z8, z13, z13, .str [110], z7, z11, z9, z9, z9, z10, .nsl, z14, z13, z7, z7, z9, z9, z9, z9, z10, z6, .nsl, .nsl, z7, z9, z9, .nsl], z9]
theorem e2 : @memo (G l2) Try.prog 3000 63 a2 v2 = true := by kernel_rfl
def l3 : List (FuncId × List AV × AV) := (63, a2, v2) :: l2
theorem o3 : @OvOk (G l3) Try.prog := ov_cons o2 (@memo_ok (G l2) Try.prog mo o2 3000 63 a2 v2 e2)
def a3 : List AV := [z0, .agg [z8, z13, z9, .str [111], z7, z9, z9, z9, z9, z10, .nsl, z14, z9, z7, z7, z9, z9, z9, z9, z10, .vsl 2 10 [z13, z9, .str [120], z7, z9, z9, z9, z9, z10, .nsl, z13, z9, .str [97], z7, z9, z9, z9, z9, z10, .nsl], .nsl, .nsl, z7, z9, z9, .nsl]]
def v3 : AV := .tup [.agg [z8, z13, z13, .str [111], z7, z13, z9, z9, z9, z10, .nsl, z14, z13, z7, z7, z9, z9, z9, z9, z10, .vsl 2 10 [z13, z13, .str [120], z7, z14, z9, z9, z9, z10, .nsl, z13, z13, .str [97], z7, z9, z9, z9, z9, z10, .nsl], .nsl, .nsl, z7, z9, z9, .nsl], z9]
theorem e3 : @memo (G l3) Try.prog 3000 63 a3 v3 = true := by kernel_rfl
def l4 : List (FuncId × List AV × AV) := (63, a3, v3) :: l3
theorem o4 : @OvOk (G l4) Try.prog := ov_cons o3 (@memo_ok (G l3) Try.prog mo o3 3000 63 a3 v3 e3)
def a4 : List AV := [z0, .agg [z8, z11, z9, .str [107], z7, z9, z9, z9, z9, z10, .vsl 1 10 [z13, z9, .str [120], z7, z9, z9, z9, z9, z10, .nsl], z13, z9, .str [97], z7, z9, z9, z9, z9, z10, .nsl, .nsl, .nsl, z7, z9, z9, .nsl]]
def v4 : AV := .tup [.agg [z8, z11, z13, .str [107], z7, .int .i64 6, z11, z9, z9, z10, .vsl 1 10 [z13, z13, .str [120], z7, z14, z9, z9, z9, z10, .nsl], z13, z13, .str [97], z7, z9, z9, z9, z9, z10, .nsl, .nsl, .nsl, z7, z9, z9, .nsl], z9]
theorem e4 : @memo (G l4) Try.prog 3000 63 a4 v4 = true := by kernel_rfl
def l5 : List (FuncId × List AV × AV) := (63, a4, v4) :: l4
theorem o5 : @OvOk (G l5) Try.prog := ov_cons o4 (@memo_ok (G l4) Try.prog mo o4 3000 63 a4 v4 e4)
def a5 : List AV := [z0, z5]
def v5 : AV := .tup [z4, z9]
theorem e5 : @memo (G l5) Try.prog 3000 36 a5 v5 = true := by kernel_rfl
def l6 : List (FuncId × List AV × AV) := (36, a5, v5) :: l5
theorem o6 : @OvOk (G l6) Try.prog := ov_cons o5 (@memo_ok (G l5) Try.prog mo o5 3000 36 a5 v5 e5)
def a6 : List AV := [z0, .nsl]
def v6 : AV := .tup [.nsl, z9]
theorem e6 : @memo (G l6) Try.prog 3000 36 a6 v6 = true := by kernel_rfl
def l7 : List (FuncId × List AV × AV) := (36, a6, v6) :: l6
theorem o7 : @OvOk (G l7) Try.prog := ov_cons o6 (@memo_ok (G l6) Try.prog mo o6 3000 36 a6 v6 e6)
def a7 : List AV := [z0, .agg [z13, z9, z9, z7, z7, z9, z9, z9, z9, z10, .nsl, z13, z9, .str [98], z7, z9, z9, z9, z9, z10, .nsl, z5, .nsl, z7, z9, z9, .nsl]]
def v7 : AV := .tup [.agg [z13, z9, z9, z7, z7, z9, z9, z9, z9, z10, .nsl, z13, z8, .str [98], z7, z8, z9, z9, z9, z10, .nsl, z4, .nsl, z7, z9, z9, .nsl], z9]
theorem e7 : @memo (G l7) Try.prog 3000 63 a7 v7 = true := by kernel_rfl
def l8 : List (FuncId × List AV × AV) := (63, a7, v7) :: l7
theorem o8 : @OvOk (G l8) Try.prog := ov_cons o7 (@memo_ok (G l7) Try.prog mo o7 3000 63 a7 v7 e7)
def a8 : List AV := [z0, .agg [z8, z13, z9, .str [114], z7, z9, z9, z9, z9, z10, .nsl, z14, z9, z7, z7, z9, z9, z9, z9, z10, .vsl 2 10 [z13, z9, .str [114], z7, z9, z9, z9, z9, z10, .nsl, z8, z9, z7, z7, z9, z9, z12, z9, .flt .f64 4602678819172646912, .nsl], .nsl, .nsl, z7, z9, z9, .nsl]]
def v8 : AV := .tup [.agg [z8, z13, z12, .str [114], z7, z12, z9, z9, z9, z10, .nsl, z14, z12, z7, z7, z9, z9, z9, z9, z10, .vsl 2 10 [z13, z12, .str [114], z7, z12, z9, z9, z9, z10, .nsl, z8, z12, z7, z7, z9, z9, z12, z9, .flt .f64 4602678819172646912, .nsl], .nsl, .nsl, z7, z9, z9, .nsl], z9]
theorem e8 : @memo (G l8) Try.prog 3000 63 a8 v8 = true := by kernel_rfl
def l9 : List (FuncId × List AV × AV) := (63, a8, v8) :: l8
theorem o9 : @OvOk (G l9) Try.prog := ov_cons o8 (@memo_ok (G l8) Try.prog mo o8 3000 63 a8 v8 e8)
def a9 : List AV := [z0, z2]
def v9 : AV := .tup [z1, z9]
theorem e9 : @memo (G l9) Try.prog 3000 36 a9 v9 = true := by kernel_rfl
def l10 : List (FuncId × List AV × AV) := (36, a9, v9) :: l9
theorem o10 : @OvOk (G l10) Try.prog := ov_cons o9 (@memo_ok (G l9) Try.prog mo o9 3000 36 a9 v9 e9)
def a10 : List AV := [.agg [z0, z2]]
def v10 : AV := .tup [.agg [z0, z1], z9]
theorem e10 : @memo (G l10) Try.prog 3000 17 a10 v10 = true := by kernel_rfl
def l11 : List (FuncId × List AV × AV) := (17, a10, v10) :: l10
theorem o11 : @OvOk (G l11) Try.prog := ov_cons o10 (@memo_ok (G l10) Try.prog mo o10 3000 17 a10 v10 e10)
def a11 : List AV := [.agg [z0, z1]]
def v11 : AV := .tup [.vsl 18 7 [z13, z9, z11, z9, z9, z9, z10, z8, z13, z9, z9, z13, z8, z10, z14, z13, z9, z9, z9, z9, z10, .int .i64 18, z9, z11, z9, z9, z9, z10, z13, z9, z14, z9, z9, z9, z10, z13, z9, z9, z9, z9, z9, z10, z14, z13, z9, z9, z9, z9, z10, .int .i64 18, z9, z13, z9, z9, z9, z10, z13, z9, z8, z9, z9, z9, z10, .int .i64 21, z9, .int .i64 13, z9, z9, z9, z10, z13, z9, z9, z9, z9, z9, z10, z13, z9, z14, z9, z9, z9, z10, .int .i64 19, z9, .int .i64 6, z11, z9, z9, z10, z13, z9, z12, z9, z9, z9, z10, z8, z12, z9, z9, z12, z9, .flt .f64 4602678819172646912, z14, z12, z9, z9, z9, z9, z10, .int .i64 18, z9, z12, z9, z9, z9, z10, .int .i64 23, z9, z9, z9, z9, z9, z10], z9]
theorem e11 : @memo (G l11) Try.prog 3000 8 a11 v11 = true := by kernel_rfl
def l12 : List (FuncId × List AV × AV) := (8, a11, v11) :: l11
theorem o12 : @OvOk (G l12) Try.prog := ov_cons o11 (@memo_ok (G l11) Try.prog mo o11 3000 8 a11 v11 e11)
def a12 : List AV := [.agg [z14, z13, z7, z7, z9, z9, z9, z9, z10, z6]]
def v12 : AV := .vsl 3 7 [z13, z9, z11, z9, z9, z9, z10, z8, z13, z9, z9, z13, z8, z10, z14, z13, z9, z9, z9, z9, z10]
theorem e12 : @memo (G l12) Try.prog 3000 11 a12 v12 = true := by kernel_rfl
def l13 : List (FuncId × List AV × AV) := (11, a12, v12) :: l12
theorem o13 : @OvOk (G l13) Try.prog := ov_cons o12 (@memo_ok (G l12) Try.prog mo o12 3000 11 a12 v12 e12)
theorem eb : @memo (G l13) Try.prog 3000 6 [] (.bool true) = true := by kernel_rfl
end Beg
theorem k6 : Pure Try.prog 6 [] (.bool true) := @memo_ok (Beg.G Beg.l13) Try.prog mo Beg.o13 3000 6 [] (.bool true) Beg.eb
theorem k47_0 : Pure Try.prog 47 [.flt .f64 0, .flt .f64 0] (.bool true) := memo_ok mo ov (n := 3000) (by kernel_rfl)
theorem k47_1 : Pure Try.prog 47 [.flt .f64 4609434218613702656, .flt .f64 4609434218613702656] (.bool true) := memo_ok mo ov (n := 3000) (by kernel_rfl)
theorem k47_2 : Pure Try.prog 47 [.flt .f64 4611686018427387904, .flt .f64 4611686018427387904] (.bool true) := memo_ok mo ov (n := 3000) (by kernel_rfl)
theorem k47_3 : Pure Try.prog 47 [.flt .f64 4598175219545276416, .flt .f64 4598175219545276416] (.bool true) := memo_ok mo ov (n := 3000) (by kernel_rfl)
end Go.Proofs.Ytjconanknjgpnaa.vars
set_option maxRecDepth 100000
set_option linter.unusedVariables false
set_option linter.unusedSimpArgs false
namespace Go.Proofs.Ytjconanknjgpnaa.vars
open Go Go.Sx
def c28 : VC := ⟨⟨[], []⟩, [(47, [none])], [], 0, true, []⟩
def t28 : VT :=
 (.lt (.bin .eql 3 false false) [.sym 64, .sym 67] 70 none
 (.ite 70
 (.lt (.bin .eql 2 false false) [.sym 65, .sym 68] 71 none
 (.ite 71
 (.call 47 [.sym 66, .sym 69] 72 [none]
 (.done (.sym 72)))
 (.done (.bool false))))
 (.done (.bool false))))
def c14 : VC := ⟨⟨[], []⟩, [(28, [none])], [], 0, true, []⟩
def t14 : VT :=
 (.lt (.bin .eql 3 false false) [.sym 64, .sym 71] 78 none
 (.ite 78
 (.lt (.bin .eql 3 false false) [.sym 65, .sym 72] 79 none
 (.ite 79
 (.lt (.bin .eql 3 false false) [.sym 66, .sym 73] 80 none
 (.ite 80
 (.lt (.bin .eql 3 false false) [.sym 67, .sym 74] 81 none
 (.ite 81
 (.call 28 [.agg [.sym 68, .sym 69, .sym 70], .agg [.sym 75, .sym 76, .sym 77]] 82 [none]
 (.done (.sym 82)))
 (.done (.bool false))))
 (.done (.bool false))))
 (.done (.bool false))))
 (.done (.bool false))))
def c5 : VC := ⟨⟨[], []⟩, [(6, [none]), (8, [none, none]), (14, [none])], [(0, [⟨[(17, .slx 0 0 0), (10, .sym 81), (12, .sym 83), (14, .sym 85), (16, .sym 97)], [], 0, 1, [], [], []⟩])], 0, true, [(7, ft7)]⟩
def t5 : VT :=
 (.call 6 [] 66 [none]
 (.lt (.un .not) [.sym 66] 67 none
 (.ite 67
 (.done (.bool false))
 (.lt (.len 22) [.sym 64] 68 none
 (.lt (.bin .gtr 3 false true) [.sym 68, .int .i64 200] 69 none
 (.ite 69
 (.done (.bool true))
 (.callF 7 ft7 [.sym 64] 70
 (.cons 3
 (.lt (.un .not) [.sym 73] 74 none
 (.ite 74
 (.done (.bool true))
 (.lt (.conv 5 3) [.sym 65] 75 none
 (.lt (.len 25) [.sym 72] 76 none
 (.lt (.bin .add 3 false true) [.sym 76, .int .i64 1] 77 none
 (.lt (.bin .rem 3 false false) [.sym 75, .sym 77] 78 none
 (.lt (.slc 25 false true) [.sym 72, .sym 78] 79 none
 (.lt (.slc 25 true false) [.sym 72, .sym 78] 80 none
 (.call 8 [.agg [.sym 71, .sym 72]] 81 [none, none]
 (.call 8 [.agg [.sym 71, .sym 79]] 83 [none, none]
 (.call 8 [.agg [.sym 71, .sym 80]] 85 [none, none]
 (.lt (.bin .neq 31 false true) [.sym 82, .int .i64 0] 87 none
 (.ite 87
 (.lt (.bin .eql 31 false true) [.sym 82, .int .i64 12] 88 none
 (.done (.sym 88)))
 (.lt (.bin .neq 31 false true) [.sym 84, .int .i64 0] 88 none
 (.ite 88
 (.done (.bool false))
 (.lt (.bin .neq 31 false true) [.sym 86, .int .i64 0] 89 none
 (.ite 89
 (.done (.bool false))
 (.lt (.len 30) [.sym 81] 90 none
 (.lt (.len 30) [.sym 83] 91 none
 (.lt (.len 30) [.sym 85] 92 none
 (.lt (.bin .add 3 false false) [.sym 91, .sym 92] 93 none
 (.lt (.bin .sub 3 false true) [.sym 93, .int .i64 1] 94 none
 (.lt (.bin .neq 3 false false) [.sym 90, .sym 94] 95 none
 (.ite 95
 (.done (.bool false))
 (.lt (.len 30) [.sym 83] 96 none
 (.lt (.bin .sub 3 false true) [.sym 96, .int .i64 1] 97 none
 (.loop 98 0 [.int .i64 0]
 (.cons 1
 (.lt (.len 30) [.sym 81] 99 none
 (.lt (.bin .lss 3 false false) [.sym 98, .sym 99] 100 none
 (.ite 100
 (.lt (.bin .lss 3 false false) [.sym 98, .sym 97] 101 none
 (.ite 101
 (.lt (.iaddr 30) [.sym 83, .sym 98] 102 none
 (.lt (.load 47) [.sym 102] 103 (some 7)
 (.lt (.iaddr 30) [.sym 81, .sym 98] 110 none
 (.lt (.load 47) [.sym 110] 111 (some 7)
 (.call 14 [.agg [.sym 111, .sym 112, .sym 113, .sym 114, .sym 115, .sym 116, .sym 117], .agg [.sym 103, .sym 104, .sym 105, .sym 106, .sym 107, .sym 108, .sym 109]] 118 [none]
 (.lt (.un .not) [.sym 118] 119 none
 (.ite 119
 (.done (.bool false))
 (.lt (.bin .add 3 false true) [.sym 98, .int .i64 1] 120 none
 (.again 0 0 [.sym 120])))))))))
 (.lt (.bin .sub 3 false false) [.sym 98, .sym 97] 102 none
 (.lt (.iaddr 30) [.sym 85, .sym 102] 103 none
 (.lt (.load 47) [.sym 103] 104 (some 7)
 (.lt (.bin .eql 3 false true) [.sym 104, .int .i64 20] 111 none
 (.ite 111
 (.lt (.bin .add 3 false false) [.sym 106, .sym 97] 112 none
 (.lt (.iaddr 30) [.sym 81, .sym 98] 113 none
 (.lt (.load 47) [.sym 113] 114 (some 7)
 (.call 14 [.agg [.sym 114, .sym 115, .sym 116, .sym 117, .sym 118, .sym 119, .sym 120], .agg [.sym 104, .sym 105, .sym 112, .sym 107, .sym 108, .sym 109, .sym 110]] 121 [none]
 (.lt (.un .not) [.sym 121] 122 none
 (.ite 122
 (.done (.bool false))
 (.lt (.bin .add 3 false true) [.sym 98, .int .i64 1] 123 none
 (.again 0 0 [.sym 123]))))))))
 (.lt (.bin .eql 3 false true) [.sym 104, .int .i64 21] 112 none
 (.ite 112
 (.lt (.bin .add 3 false false) [.sym 106, .sym 97] 113 none
 (.lt (.iaddr 30) [.sym 81, .sym 98] 114 none
 (.lt (.load 47) [.sym 114] 115 (some 7)
 (.call 14 [.agg [.sym 115, .sym 116, .sym 117, .sym 118, .sym 119, .sym 120, .sym 121], .agg [.sym 104, .sym 105, .sym 113, .sym 107, .sym 108, .sym 109, .sym 110]] 122 [none]
 (.lt (.un .not) [.sym 122] 123 none
 (.ite 123
 (.done (.bool false))
 (.lt (.bin .add 3 false true) [.sym 98, .int .i64 1] 124 none
 (.again 0 0 [.sym 124]))))))))
 (.lt (.iaddr 30) [.sym 81, .sym 98] 113 none
 (.lt (.load 47) [.sym 113] 114 (some 7)
 (.call 14 [.agg [.sym 114, .sym 115, .sym 116, .sym 117, .sym 118, .sym 119, .sym 120], .agg [.sym 104, .sym 105, .sym 106, .sym 107, .sym 108, .sym 109, .sym 110]] 121 [none]
 (.lt (.un .not) [.sym 121] 122 none
 (.ite 122
 (.done (.bool false))
 (.lt (.bin .add 3 false true) [.sym 98, .int .i64 1] 123 none
 (.again 0 0 [.sym 123]))))))))))))))))
 (.done (.bool true)))))
 .nil))))))))))))))))))))))))))))
 .nil))))))))
theorem p47 {f : Nat} (h : Flt4 f) : Pure Try.prog 47 [.flt .f64 f, .flt .f64 f] (.bool true) := by
 rcases h with rfl | rfl | rfl | rfl
 ·exact k47_0
 ·exact k47_1
 ·exact k47_2
 ·exact k47_3
theorem p28 (k i : Int) {f : Nat} (h : Flt4 f) : Pure Try.prog 28 [.agg [.int .i64 k, .int .i64 i, .flt .f64 f], .agg [.int .i64 k, .int .i64 i, .flt .f64 f]] (.bool true) := by
 refine pure_shape (sh := [some 3, some 3]) (ls := [.int .i64 k, .int .i64 i, .flt .f64 f, .int .i64 k, .int .i64 i, .flt .f64 f]) (c := c28) (n := 300) (t := t28) mo ov rfl rfl rfl (fun Y _ => known0 _) rfl (by kernel_rfl) fun Y hf hg => ?_
 unfold t28
 refine it_eq rfl (fun _ => ?_) (fun h => absurd rfl h)
 refine it_eq rfl (fun _ => ?_) (fun h => absurd rfl h)
 exact VOK_call (p47 h) rfl rfl (VOK_done rfl)
theorem p14 {i j : GI} (e : i = j) (h : Flt4 i.vf) : Pure Try.prog 14 [.agg (encG i), .agg (encG j)] (.bool true) := by
 subst e
 refine pure_shape (sh := [some 7, some 7]) (ls := encG i ++ encG i) (c := c14) (n := 300) (t := t14) mo ov rfl rfl rfl (fun Y _ => known0 _) rfl (by kernel_rfl) fun Y hf hg => ?_
 unfold t14
 refine it_eq rfl (fun _ => ?_) (fun h => absurd rfl h)
 refine it_eq rfl (fun _ => ?_) (fun h => absurd rfl h)
 refine it_eq rfl (fun _ => ?_) (fun h => absurd rfl h)
 refine it_eq rfl (fun _ => ?_) (fun h => absurd rfl h)
 exact VOK_call (p28 _ _ h) rfl rfl (VOK_done rfl)
theorem run_ia30 (l : List GI) {i : Nat} (h : i < l.length) : (XOp.iaddr 30).run Try.prog [insts l, .int .i64 (i : Int)] = some (.vptr (encL encG (l.drop i))) :=
 run_iaddr_sl (e := 47) (ti := (Try.prog.info? 47).get!) Try.underlying30 (by kernel_rfl) (by kernel_rfl) lenG h .i64
theorem run_ld47 (l : List GI) {i : Nat} (h : i < l.length) : (XOp.load 47).run Try.prog [.vptr (encL encG (l.drop i))] = some (.agg (encG l[i])) :=
 run_load_agg (ti := (Try.prog.info? 47).get!) Try.underlying47 rfl (by kernel_rfl) (by kernel_rfl) lenG h
theorem p5 {l : List UInt8} {a : AV} (hp : Pk l a) (c : Nat) (hc : c < 256) : Pure Try.prog 5 [a, .int .u8 (c : Int)] (.bool true) := by
 have hA := hp.1.ok okC8
 refine pure_shape (sh := [none, none]) (ls := [a, .int .u8 (c : Int)]) (c := c5) (n := 300) (t := t5) mo ov rfl (by simp only [okL, okC, hA]) rfl (fun Y _ => known0 _) rfl (by kernel_rfl) fun Y hf hg => ?_
 unfold t5
 refine VOK_call k6 rfl rfl (VOK_lt rfl rfl (VOK_ite rfl (fun h => by cases h) (fun _ => ?_)))
 refine VOK_lt (len22 hp) rfl ?_
 (refine it_c rfl rfl (fun h => ?_) (fun h => ?_) <;> simp only [Cmp, Decidable.not_not, Int.not_lt, Int.not_le] at h <;> try (exfalso; first | exact h trivial | omega))
 ·exact VOK_done rfl
 refine callF' (p7 hp) rfl (by simp only [okL, hA]) ⟨?_, trivial⟩
 rintro ws ⟨v, b, e, rfl, hv, hb⟩
 refine VOK_lt (run_not ..) rfl (VOK_ite rfl (fun h => VOK_done rfl) (fun h => ?_))
 obtain ⟨rfl, hb5, hT⟩ := hb (by simpa using h)
 refine VOK_lt (cv5_3 c hc) rfl (VOK_lt (run_len25 b) rfl (VOK_lt (add_c (by omega) (by omega)) rfl (VOK_lt (run_rem c (b.length + 1) (by omega) (by omega) ..) rfl ?_)))
 obtain ⟨k, hk⟩ : ∃ k, k = c % (b.length + 1) := ⟨_, rfl⟩
 have hkb : k ≤ b.length := by have := Nat.mod_lt c (show 0 < b.length + 1 by omega); omega
 rw [← hk]
 have hsl : SlV encS 27 b (encB b) := by rw [encB_eq]; exact SlV.of b
 obtain ⟨r1, hr1, hs1⟩ := hsl.slc01 (P := Try.prog) (ti := (Try.prog.info? 42).get!) Try.underlying25 (by kernel_rfl) (by kernel_rfl) lenS (k := .i64) hkb
 obtain ⟨r2, hr2, hs2⟩ := hsl.slc10 (P := Try.prog) (ti := (Try.prog.info? 42).get!) Try.underlying25 (by kernel_rfl) (by kernel_rfl) lenS (k := .i64) hkb
 refine VOK_lt hr1 (hs1.ok okS) (VOK_lt hr2 (hs2.ok okS) ?_)
 obtain ⟨x, hx⟩ : ∃ x, x = b.take k := ⟨_, rfl⟩
 obtain ⟨y, hy⟩ : ∃ y, y = b.drop k := ⟨_, rfl⟩
 rw [← hx] at hs1
 rw [← hy] at hs2
 have hxy : b = x ++ y := by rw [hx, hy, List.take_append_drop]
 have hx5 : x.length ≤ 5 := by have := congrArg List.length hxy; rw [List.length_append] at this; omega
 have hy5 : y.length ≤ 5 := by have := congrArg List.length hxy; rw [List.length_append] at this; omega
 have hTx : ∀ s ∈ x, TS 3 s := fun s hs => hT s (by rw [hxy]; exact List.mem_append_left _ hs)
 have hTy : ∀ s ∈ y, TS 3 s := fun s hs => hT s (by rw [hxy]; exact List.mem_append_right _ hs)
 have hbl := genSs3 hb5 hT 0
 refine VOK_call (p8 (v := VARS) rfl hsl hb5 hT (by omega)) rfl (by simp only [okL, okPl, okC]) ?_
 refine VOK_call (p8 (v := VARS) rfl hs1 hx5 hTx (by have := genSs3 hx5 hTx 0; omega)) rfl (by simp only [okL, okPl, okC]) ?_
 refine VOK_call (p8 (v := VARS) rfl hs2 hy5 hTy (by have := genSs3 hy5 hTy 0; omega)) rfl (by simp only [okL, okPl, okC]) ?_
 have hparts : genP b = genSs 0 x ++ (genP y).map (sh (genSs 0 x).length) := by rw [hxy]; exact genP_parts hTy
 have hgx : genP x = genSs 0 x ++ [ins 23 0 0 0] := rfl
 have hlx : (genP x).length = (genSs 0 x).length + 1 := by rw [hgx, List.length_append]; rfl
 have hly : 1 ≤ (genP y).length := by simp [genP]
 have hlb : (genP b).length = (genSs 0 x).length + (genP y).length := by rw [hparts, List.length_append, List.length_map]
 by_cases hfit : (genP b).length ≤ 400
 ·have e0 : pe b = 0 := if_pos hfit
  have e1 : pl b = insts (genP b) := if_pos hfit
  have e2 : pe x = 0 := if_pos (by omega)
  have e3 : pl x = insts (genP x) := if_pos (by omega)
  have e4 : pe y = 0 := if_pos (by omega)
  have e5 : pl y = insts (genP y) := if_pos (by omega)
  rw [e0, e1, e2, e3, e4, e5]
  obtain ⟨n, hn⟩ : ∃ n, n = (genSs 0 x).length := ⟨_, rfl⟩
  rw [← hn] at hparts hlx hlb
  (refine it_c rfl rfl (fun h => ?_) (fun h => ?_) <;> simp only [Cmp, Decidable.not_not, Int.not_lt, Int.not_le] at h <;> try (exfalso; first | exact h trivial | omega)); (refine it_c rfl rfl (fun h => ?_) (fun h => ?_) <;> simp only [Cmp, Decidable.not_not, Int.not_lt, Int.not_le] at h <;> try (exfalso; first | exact h trivial | omega)); (refine it_c rfl rfl (fun h => ?_) (fun h => ?_) <;> simp only [Cmp, Decidable.not_not, Int.not_lt, Int.not_le] at h <;> try (exfalso; first | exact h trivial | omega))
  refine VOK_lt (run_len30 _) rfl (VOK_lt (run_len30 _) rfl (VOK_lt (run_len30 _) rfl (VOK_lt (add_c (by omega) (by omega)) rfl (VOK_lt (sub_c (z := ((genP b).length : Int)) (by omega) (by omega) (by omega)) rfl ?_))))
  (refine it_c rfl rfl (fun h => ?_) (fun h => ?_) <;> simp only [Cmp, Decidable.not_not, Int.not_lt, Int.not_le] at h <;> try (exfalso; first | exact h trivial | omega))
  refine VOK_lt (run_len30 _) rfl (VOK_lt (sub_c (z := (n : Int)) (by omega) (by omega) (by omega)) rfl ?_)
  refine VOK_loop (ι := Nat) (fun i => [.int .i64 (i : Int)]) (fun i => i ≤ (genP b).length) (fun i => (genP b).length - i) 0 (Nat.zero_le _) rfl (fun i _ => rfl) (fun i j _ _ h => by simp at h; omega) (fun i hi => ?_)
  refine VOK_lt (run_len30 _) rfl ?_
  (refine it_c rfl rfl (fun h => ?_) (fun h => ?_) <;> simp only [Cmp, Decidable.not_not, Int.not_lt, Int.not_le] at h <;> try (exfalso; first | exact h trivial | omega))
  ·have hi : i < (genP b).length := by omega
   have hgb := genP_gok hT
   (refine it_c rfl rfl (fun h => ?_) (fun h => ?_) <;> simp only [Cmp, Decidable.not_not, Int.not_lt, Int.not_le] at h <;> try (exfalso; first | exact h trivial | omega))
   ·have hix : i < (genP x).length := by omega
    refine VOK_lt (run_ia30 (genP x) hix) (encL_ok okG _) (VOK_ltN (run_ld47 _ hix) rfl rfl (VOK_lt (run_ia30 (genP b) hi) (encL_ok okG _) (VOK_ltN (run_ld47 _ hi) rfl rfl ?_)))
    have hin : i < (genSs 0 x).length := by omega
    have e : (genP b)[i] = (genP x)[i] := by
     simp only [hparts, hgx, List.getElem_append_left hin]
    (
     refine VOK_call (p14 e (hgb _ (List.getElem_mem hi)).1) rfl rfl (VOK_lt (run_not ..) rfl (VOK_ite rfl (fun h => by cases h) (fun _ => ?_)))
     exact VOK_lt (add_c (by omega) (by omega)) rfl (VOK_again rfl ⟨i + 1, hi, rfl, by omega⟩))
   ·obtain ⟨j, rfl⟩ : ∃ j, i = n + j := ⟨i - n, by omega⟩
    have hj : j < (genP y).length := by omega
    have e : (genP b)[n + j] = sh n (genP y)[j] := by
     have h1 : (genSs 0 x).length ≤ n + j := by omega
     simp only [hparts, List.getElem_append_right h1, List.getElem_map]
     congr 2
     omega
    have hgy := genP_gok hTy _ (List.getElem_mem hj)
    have hF : Flt4 (genP b)[n + j].vf := (hgb _ (List.getElem_mem hi)).1
    refine VOK_lt (sub_c (z := (j : Int)) (by omega) (by omega) (by omega)) rfl (VOK_lt (run_ia30 (genP y) hj) (encL_ok okG _) (VOK_ltN (run_ld47 _ hj) rfl rfl ?_))
    (refine it_c rfl rfl (fun h => ?_) (fun h => ?_) <;> simp only [Cmp, Decidable.not_not, Int.not_lt, Int.not_le] at h <;> try (exfalso; first | exact h trivial | omega))
    ·have := hgy.2 (.inl h)
     refine VOK_lt (add_c (by omega) (by omega)) rfl (VOK_lt (run_ia30 (genP b) hi) (encL_ok okG _) (VOK_ltN (run_ld47 _ hi) rfl rfl ?_))
     have e' : (genP b)[n + j] = { (genP y)[j] with ad := (genP y)[j].ad + n } := by rw [e]; exact if_pos (.inl h)
     refine VOK_call (p14 e' hF) rfl rfl (VOK_lt (run_not ..) rfl (VOK_ite rfl (fun h => by cases h) (fun _ => ?_)))
     exact VOK_lt (add_c (by omega) (by omega)) rfl (VOK_again rfl ⟨n + j + 1, hi, rfl, by omega⟩)
    (refine it_c rfl rfl (fun h => ?_) (fun h => ?_) <;> simp only [Cmp, Decidable.not_not, Int.not_lt, Int.not_le] at h <;> try (exfalso; first | exact h trivial | omega))
    ·have := hgy.2 (.inr h)
     refine VOK_lt (add_c (by omega) (by omega)) rfl (VOK_lt (run_ia30 (genP b) hi) (encL_ok okG _) (VOK_ltN (run_ld47 _ hi) rfl rfl ?_))
     have e' : (genP b)[n + j] = { (genP y)[j] with ad := (genP y)[j].ad + n } := by rw [e]; exact if_pos (.inr h)
     refine VOK_call (p14 e' hF) rfl rfl (VOK_lt (run_not ..) rfl (VOK_ite rfl (fun h => by cases h) (fun _ => ?_)))
     exact VOK_lt (add_c (by omega) (by omega)) rfl (VOK_again rfl ⟨n + j + 1, hi, rfl, by omega⟩)
    ·refine VOK_lt (run_ia30 (genP b) hi) (encL_ok okG _) (VOK_ltN (run_ld47 _ hi) rfl rfl ?_)
     have e' : (genP b)[n + j] = (genP y)[j] := by rw [e]; exact if_neg (by rintro (h1 | h1) <;> contradiction)
     refine VOK_call (p14 e' hF) rfl rfl (VOK_lt (run_not ..) rfl (VOK_ite rfl (fun h => by cases h) (fun _ => ?_)))
     exact VOK_lt (add_c (by omega) (by omega)) rfl (VOK_again rfl ⟨n + j + 1, hi, rfl, by omega⟩)
  ·exact VOK_done rfl
 ·have e0 : pe b = 12 := if_neg hfit
  rw [e0]
  (refine it_c rfl rfl (fun h => ?_) (fun h => ?_) <;> simp only [Cmp, Decidable.not_not, Int.not_lt, Int.not_le] at h <;> try (exfalso; first | exact h trivial | omega))
  exact VOK_lt (run_eql ..) rfl (VOK_done rfl)
end Go.Proofs.Ytjconanknjgpnaa.vars
