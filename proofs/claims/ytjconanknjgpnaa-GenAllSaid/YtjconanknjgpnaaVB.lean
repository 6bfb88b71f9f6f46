/-
  The law's beginning: closed.
-/
import Derived.Test.YtjconanknjgpnaaF0
import Derived.Test.YtjconanknjgpnaaV8
set_option maxRecDepth 100000
namespace Go.Proofs.Ytjconanknjgpnaa.vars
open Go Go.Sx
namespace Beg
abbrev G (l : List (FuncId × List AV × AV)) : Gl := glT gl0 nr0 l
theorem o0 : @OvOk (G []) Try.prog := ov_nil gl0 nr0 Try.prog
def z8 : AV := .int .i64 1
def z13 : AV := .int .i64 2
def z9 : AV := .int .i64 0
def z10 : AV := .flt .f64 0
def z11 : AV := .int .i64 3
def z12 : AV := .int .i64 5
def z0 : AV := .vsl 7 10 [.str [97], z8, z13, z9, z13, z9, z10, z9, z9, z10, .str [98], z8, z8, z9, z8, z9, z10, z9, z9, z10, .str [111], z13, z13, z9, z13, z8, z10, z13, .int .i64 9, z10, .str [110], z11, z13, z9, z13, z9, z10, z9, z9, z10, .str [120], z11, z13, z9, z13, z9, z10, z9, z9, z10, .str [114], z11, z12, z9, z12, z9, z10, z9, z9, z10, .str [107], z11, z13, z11, z13, z9, z10, z9, z9, z10]
def z7 : AV := .str []
def z14 : AV := .int .i64 4
def z6 : AV := .vsl 2 10 [z13, z13, .str [110], z7, z11, z9, z9, z9, z10, .nsl, z8, z13, z7, z7, z9, z9, z13, z8, z10, .nsl]
def z4 : AV := .vsl 1 27 [z8, z11, z13, .str [107], z7, .int .i64 6, z11, z9, z9, z10, .vsl 1 10 [z13, z13, .str [120], z7, z14, z9, z9, z9, z10, .nsl], z13, z13, .str [97], z7, z9, z9, z9, z9, z10, .nsl, .nsl, .nsl, z7, z9, z9, .nsl]
def z1 : AV := .vsl 4 27 [z8, z13, z13, .str [110], z7, z11, z9, z9, z9, z10, .nsl, z14, z13, z7, z7, z9, z9, z9, z9, z10, z6, .nsl, .nsl, z7, z9, z9, .nsl, z8, z13, z13, .str [111], z7, z13, z9, z9, z9, z10, .nsl, z14, z13, z7, z7, z9, z9, z9, z9, z10, .vsl 2 10 [z13, z13, .str [120], z7, z14, z9, z9, z9, z10, .nsl, z13, z13, .str [97], z7, z9, z9, z9, z9, z10, .nsl], .nsl, .nsl, z7, z9, z9, .nsl, z13, z9, z9, z7, z7, z9, z9, z9, z9, z10, .nsl, z13, z8, .str [98], z7, z8, z9, z9, z9, z10, .nsl, z4, .nsl, z7, z9, z9, .nsl, z8, z13, z12, .str [114], z7, z12, z9, z9, z9, z10, .nsl, z14, z12, z7, z7, z9, z9, z9, z9, z10, .vsl 2 10 [z13, z12, .str [114], z7, z12, z9, z9, z9, z10, .nsl, z8, z12, z7, z7, z9, z9, z12, z9, .flt .f64 4602678819172646912, .nsl], .nsl, .nsl, z7, z9, z9, .nsl]
def z5 : AV := .vsl 1 27 [z8, z11, z9, .str [107], z7, z9, z9, z9, z9, z10, .vsl 1 10 [z13, z9, .str [120], z7, z9, z9, z9, z9, z10, .nsl], z13, z9, .str [97], z7, z9, z9, z9, z9, z10, .nsl, .nsl, .nsl, z7, z9, z9, .nsl]
def z2 : AV := .vsl 4 27 [z8, z13, z9, .str [110], z7, z9, z9, z9, z9, z10, .nsl, z14, z9, z7, z7, z9, z9, z9, z9, z10, .vsl 2 10 [z13, z9, .str [110], z7, z9, z9, z9, z9, z10, .nsl, z8, z9, z7, z7, z9, z9, z11, z8, z10, .nsl], .nsl, .nsl, z7, z9, z9, .nsl, z8, z13, z9, .str [111], z7, z9, z9, z9, z9, z10, .nsl, z14, z9, z7, z7, z9, z9, z9, z9, z10, .vsl 2 10 [z13, z9, .str [120], z7, z9, z9, z9, z9, z10, .nsl, z13, z9, .str [97], z7, z9, z9, z9, z9, z10, .nsl], .nsl, .nsl, z7, z9, z9, .nsl, z13, z9, z9, z7, z7, z9, z9, z9, z9, z10, .nsl, z13, z9, .str [98], z7, z9, z9, z9, z9, z10, .nsl, z5, .nsl, z7, z9, z9, .nsl, z8, z13, z9, .str [114], z7, z9, z9, z9, z9, z10, .nsl, z14, z9, z7, z7, z9, z9, z9, z9, z10, .vsl 2 10 [z13, z9, .str [114], z7, z9, z9, z9, z9, z10, .nsl, z8, z9, z7, z7, z9, z9, z12, z9, .flt .f64 4602678819172646912, .nsl], .nsl, .nsl, z7, z9, z9, .nsl]
def z3 : AV := .str [105, 110, 32, 97, 32, 58, 32, 105, 110, 116, 59, 32, 105, 110, 32, 98, 32, 58, 32, 98, 111, 111, 108, 59, 32, 111, 117, 116, 32, 111, 32, 58, 32, 105, 110, 116, 32, 58, 61, 32, 49, 44, 32, 57, 59, 32, 118, 97, 114, 32, 110, 32, 58, 32, 105, 110, 116, 59, 32, 118, 97, 114, 32, 120, 32, 58, 32, 105, 110, 116, 59, 32, 118, 97, 114, 32, 114, 32, 58, 32, 114, 101, 97, 108, 59, 32, 118, 97, 114, 32, 107, 32, 58, 32, 105, 110, 116, 91, 51, 93, 59, 32, 110, 32, 58, 61, 32, 110, 32, 43, 32, 49, 59, 32, 111, 32, 58, 61, 32, 120, 32, 43, 32, 97, 59, 32, 105, 102, 32, 98, 32, 116, 104, 101, 110, 32, 107, 91, 120, 93, 32, 58, 61, 32, 97, 59, 32, 101, 110, 100, 32, 114, 32, 58, 61, 32, 114, 32, 43, 32, 48, 46, 53, 59]
def a0 : List AV := [z3]
def v0 : AV := .tup [.vsl 71 5 [z8, .str [105, 110], z9, z10, z9, z8, .str [97], z9, z10, z11, z12, .str [58], z9, z10, z12, z8, .str [105, 110, 116], z9, z10, .int .i64 7, z12, .str [59], z9, z10, .int .i64 10, z8, .str [105, 110], z9, z10, .int .i64 12, z8, .str [98], z9, z10, .int .i64 15, z12, .str [58], z9, z10, .int .i64 17, z8, .str [98, 111, 111, 108], z9, z10, .int .i64 19, z12, .str [59], z9, z10, .int .i64 23, z8, .str [111, 117, 116], z9, z10, .int .i64 25, z8, .str [111], z9, z10, .int .i64 29, z12, .str [58], z9, z10, .int .i64 31, z8, .str [105, 110, 116], z9, z10, .int .i64 33, z12, .str [58, 61], z9, z10, .int .i64 37, z13, z7, z8, z10, .int .i64 40, z12, .str [44], z9, z10, .int .i64 41, z13, z7, .int .i64 9, z10, .int .i64 43, z12, .str [59], z9, z10, .int .i64 44, z8, .str [118, 97, 114], z9, z10, .int .i64 46, z8, .str [110], z9, z10, .int .i64 50, z12, .str [58], z9, z10, .int .i64 52, z8, .str [105, 110, 116], z9, z10, .int .i64 54, z12, .str [59], z9, z10, .int .i64 57, z8, .str [118, 97, 114], z9, z10, .int .i64 59, z8, .str [120], z9, z10, .int .i64 63, z12, .str [58], z9, z10, .int .i64 65, z8, .str [105, 110, 116], z9, z10, .int .i64 67, z12, .str [59], z9, z10, .int .i64 70, z8, .str [118, 97, 114], z9, z10, .int .i64 72, z8, .str [114], z9, z10, .int .i64 76, z12, .str [58], z9, z10, .int .i64 78, z8, .str [114, 101, 97, 108], z9, z10, .int .i64 80, z12, .str [59], z9, z10, .int .i64 84, z8, .str [118, 97, 114], z9, z10, .int .i64 86, z8, .str [107], z9, z10, .int .i64 90, z12, .str [58], z9, z10, .int .i64 92, z8, .str [105, 110, 116], z9, z10, .int .i64 94, z12, .str [91], z9, z10, .int .i64 97, z13, z7, z11, z10, .int .i64 98, z12, .str [93], z9, z10, .int .i64 99, z12, .str [59], z9, z10, .int .i64 100, z8, .str [110], z9, z10, .int .i64 102, z12, .str [58, 61], z9, z10, .int .i64 104, z8, .str [110], z9, z10, .int .i64 107, z12, .str [43], z9, z10, .int .i64 109, z13, z7, z8, z10, .int .i64 111, z12, .str [59], z9, z10, .int .i64 112, z8, .str [111], z9, z10, .int .i64 114, z12, .str [58, 61], z9, z10, .int .i64 116, z8, .str [120], z9, z10, .int .i64 119, z12, .str [43], z9, z10, .int .i64 121, z8, .str [97], z9, z10, .int .i64 123, z12, .str [59], z9, z10, .int .i64 124, z8, .str [105, 102], z9, z10, .int .i64 126, z8, .str [98], z9, z10, .int .i64 129, z8, .str [116, 104, 101, 110], z9, z10, .int .i64 131, z8, .str [107], z9, z10, .int .i64 136, z12, .str [91], z9, z10, .int .i64 137, z8, .str [120], z9, z10, .int .i64 138, z12, .str [93], z9, z10, .int .i64 139, z12, .str [58, 61], z9, z10, .int .i64 141, z8, .str [97], z9, z10, .int .i64 144, z12, .str [59], z9, z10, .int .i64 145, z8, .str [101, 110, 100], z9, z10, .int .i64 147, z8, .str [114], z9, z10, .int .i64 151, z12, .str [58, 61], z9, z10, .int .i64 153, z8, .str [114], z9, z10, .int .i64 156, z12, .str [43], z9, z10, .int .i64 158, z11, z7, z9, .flt .f64 4602678819172646912, .int .i64 160, z12, .str [59], z9, z10, .int .i64 163], z9, .bool true]
theorem e0 : @memo (G []) Try.prog 3000 29 a0 v0 = true := by kernel_rfl
def l1 : List (FuncId × List AV × AV) := (29, a0, v0) :: []
theorem o1 : @OvOk (G l1) Try.prog := ov_cons o0 (@memo_ok (G []) Try.prog mo o0 3000 29 a0 v0 e0)
def a1 : List AV := [z3]
def v1 : AV := .tup [.agg [z0, z2], z9, .bool true]
theorem e1 : @memo (G l1) Try.prog 3000 15 a1 v1 = true := by kernel_rfl
def l2 : List (FuncId × List AV × AV) := (15, a1, v1) :: l1
theorem o2 : @OvOk (G l2) Try.prog := ov_cons o1 (@memo_ok (G l1) Try.prog mo o1 3000 15 a1 v1 e1)
def a2 : List AV := [z0, .agg [z8, z13, z9, .str [110], z7, z9, z9, z9, z9, z10, .nsl, z14, z9, z7, z7, z9, z9, z9, z9, z10, .vsl 2 10 [z13, z9, .str [110], z7, z9, z9, z9, z9, z10, .nsl, z8, z9, z7, z7, z9, z9, z11, z8, z10, .nsl], .nsl, .nsl, z7, z9, z9, .nsl]]
def v2 : AV := .tup [.agg [z8, z13, z13, .str [110], z7, z11, z9, z9, z9, z10, .nsl, z14, z13, z7, z7, z9, z9, z9, z9, z10, z6, .nsl, .nsl, z7, z9, z9, .nsl], z9]
theorem e2 : @memo (G l2) Try.prog 3000 63 a2 v2 = true := by kernel_rfl
def l3 : List (FuncId × List AV × AV) := (63, a2, v2) :: l2
theorem o3 : @OvOk (G l3) Try.prog := ov_cons o2 (@memo_ok (G l2) Try.prog mo o2 3000 63 a2 v2 e2)
def a3 : List AV := [z0, .agg [z8, z13, z9, .str [111], z7, z9, z9, z9, z9, z10, .nsl, z14, z9, z7, z7, z9, z9, z9, z9, z10, .vsl 2 10 [z13, z9, .str [120], z7, z9, z9, z9, z9, z10, .nsl, z13, z9, .str [97], z7, z9, z9, z9, z9, z10, .nsl], .nsl, .nsl, z7, z9, z9, .nsl]]
def v3 : AV := .tup [.agg [z8, z13, z13, .str [111], z7, z13, z9, z9, z9, z10, .nsl, z14, z13, z7, z7, z9, z9, z9, z9, z10, .vsl 2 10 [z13, z13, .str [120], z7, z14, z9, z9, z9, z10, .nsl, z13, z13, .str [97], z7, z9, z9, z9, z9, z10, .nsl], .nsl, .nsl, z7, z9, z9, .nsl], z9]
theorem e3 : @memo (G l3) Try.prog 3000 63 a3 v3 = true := by kernel_rfl
def l4 : List (FuncId × List AV × AV) := (63, a3, v3) :: l3
theorem o4 : @OvOk (G l4) Try.prog := ov_cons o3 (@memo_ok (G l3) Try.prog mo o3 3000 63 a3 v3 e3)
def a4 : List AV := [z0, .agg [z8, z11, z9, .str [107], z7, z9, z9, z9, z9, z10, .vsl 1 10 [z13, z9, .str [120], z7, z9, z9, z9, z9, z10, .nsl], z13, z9, .str [97], z7, z9, z9, z9, z9, z10, .nsl, .nsl, .nsl, z7, z9, z9, .nsl]]
def v4 : AV := .tup [.agg [z8, z11, z13, .str [107], z7, .int .i64 6, z11, z9, z9, z10, .vsl 1 10 [z13, z13, .str [120], z7, z14, z9, z9, z9, z10, .nsl], z13, z13, .str [97], z7, z9, z9, z9, z9, z10, .nsl, .nsl, .nsl, z7, z9, z9, .nsl], z9]
theorem e4 : @memo (G l4) Try.prog 3000 63 a4 v4 = true := by kernel_rfl
def l5 : List (FuncId × List AV × AV) := (63, a4, v4) :: l4
theorem o5 : @OvOk (G l5) Try.prog := ov_cons o4 (@memo_ok (G l4) Try.prog mo o4 3000 63 a4 v4 e4)
def a5 : List AV := [z0, z5]
def v5 : AV := .tup [z4, z9]
theorem e5 : @memo (G l5) Try.prog 3000 36 a5 v5 = true := by kernel_rfl
def l6 : List (FuncId × List AV × AV) := (36, a5, v5) :: l5
theorem o6 : @OvOk (G l6) Try.prog := ov_cons o5 (@memo_ok (G l5) Try.prog mo o5 3000 36 a5 v5 e5)
def a6 : List AV := [z0, .nsl]
def v6 : AV := .tup [.nsl, z9]
theorem e6 : @memo (G l6) Try.prog 3000 36 a6 v6 = true := by kernel_rfl
def l7 : List (FuncId × List AV × AV) := (36, a6, v6) :: l6
theorem o7 : @OvOk (G l7) Try.prog := ov_cons o6 (@memo_ok (G l6) Try.prog mo o6 3000 36 a6 v6 e6)
def a7 : List AV := [z0, .agg [z13, z9, z9, z7, z7, z9, z9, z9, z9, z10, .nsl, z13, z9, .str [98], z7, z9, z9, z9, z9, z10, .nsl, z5, .nsl, z7, z9, z9, .nsl]]
def v7 : AV := .tup [.agg [z13, z9, z9, z7, z7, z9, z9, z9, z9, z10, .nsl, z13, z8, .str [98], z7, z8, z9, z9, z9, z10, .nsl, z4, .nsl, z7, z9, z9, .nsl], z9]
theorem e7 : @memo (G l7) Try.prog 3000 63 a7 v7 = true := by kernel_rfl
def l8 : List (FuncId × List AV × AV) := (63, a7, v7) :: l7
theorem o8 : @OvOk (G l8) Try.prog := ov_cons o7 (@memo_ok (G l7) Try.prog mo o7 3000 63 a7 v7 e7)
def a8 : List AV := [z0, .agg [z8, z13, z9, .str [114], z7, z9, z9, z9, z9, z10, .nsl, z14, z9, z7, z7, z9, z9, z9, z9, z10, .vsl 2 10 [z13, z9, .str [114], z7, z9, z9, z9, z9, z10, .nsl, z8, z9, z7, z7, z9, z9, z12, z9, .flt .f64 4602678819172646912, .nsl], .nsl, .nsl, z7, z9, z9, .nsl]]
def v8 : AV := .tup [.agg [z8, z13, z12, .str [114], z7, z12, z9, z9, z9, z10, .nsl, z14, z12, z7, z7, z9, z9, z9, z9, z10, .vsl 2 10 [z13, z12, .str [114], z7, z12, z9, z9, z9, z10, .nsl, z8, z12, z7, z7, z9, z9, z12, z9, .flt .f64 4602678819172646912, .nsl], .nsl, .nsl, z7, z9, z9, .nsl], z9]
theorem e8 : @memo (G l8) Try.prog 3000 63 a8 v8 = true := by kernel_rfl
def l9 : List (FuncId × List AV × AV) := (63, a8, v8) :: l8
theorem o9 : @OvOk (G l9) Try.prog := ov_cons o8 (@memo_ok (G l8) Try.prog mo o8 3000 63 a8 v8 e8)
def a9 : List AV := [z0, z2]
def v9 : AV := .tup [z1, z9]
theorem e9 : @memo (G l9) Try.prog 3000 36 a9 v9 = true := by kernel_rfl
def l10 : List (FuncId × List AV × AV) := (36, a9, v9) :: l9
theorem o10 : @OvOk (G l10) Try.prog := ov_cons o9 (@memo_ok (G l9) Try.prog mo o9 3000 36 a9 v9 e9)
def a10 : List AV := [.agg [z0, z2]]
def v10 : AV := .tup [.agg [z0, z1], z9]
theorem e10 : @memo (G l10) Try.prog 3000 17 a10 v10 = true := by kernel_rfl
def l11 : List (FuncId × List AV × AV) := (17, a10, v10) :: l10
theorem o11 : @OvOk (G l11) Try.prog := ov_cons o10 (@memo_ok (G l10) Try.prog mo o10 3000 17 a10 v10 e10)
def a11 : List AV := [.agg [z0, z1]]
def v11 : AV := .tup [.vsl 18 7 [z13, z9, z11, z9, z9, z9, z10, z8, z13, z9, z9, z13, z8, z10, z14, z13, z9, z9, z9, z9, z10, .int .i64 18, z9, z11, z9, z9, z9, z10, z13, z9, z14, z9, z9, z9, z10, z13, z9, z9, z9, z9, z9, z10, z14, z13, z9, z9, z9, z9, z10, .int .i64 18, z9, z13, z9, z9, z9, z10, z13, z9, z8, z9, z9, z9, z10, .int .i64 21, z9, .int .i64 13, z9, z9, z9, z10, z13, z9, z9, z9, z9, z9, z10, z13, z9, z14, z9, z9, z9, z10, .int .i64 19, z9, .int .i64 6, z11, z9, z9, z10, z13, z9, z12, z9, z9, z9, z10, z8, z12, z9, z9, z12, z9, .flt .f64 4602678819172646912, z14, z12, z9, z9, z9, z9, z10, .int .i64 18, z9, z12, z9, z9, z9, z10, .int .i64 23, z9, z9, z9, z9, z9, z10], z9]
theorem e11 : @memo (G l11) Try.prog 3000 8 a11 v11 = true := by kernel_rfl
def l12 : List (FuncId × List AV × AV) := (8, a11, v11) :: l11
theorem o12 : @OvOk (G l12) Try.prog := ov_cons o11 (@memo_ok (G l11) Try.prog mo o11 3000 8 a11 v11 e11)
def a12 : List AV := [.agg [z14, z13, z7, z7, z9, z9, z9, z9, z10, z6]]
def v12 : AV := .vsl 3 7 [z13, z9, z11, z9, z9, z9, z10, z8, z13, z9, z9, z13, z8, z10, z14, z13, z9, z9, z9, z9, z10]
theorem e12 : @memo (G l12) Try.prog 3000 11 a12 v12 = true := by kernel_rfl
def l13 : List (FuncId × List AV × AV) := (11, a12, v12) :: l12
theorem o13 : @OvOk (G l13) Try.prog := ov_cons o12 (@memo_ok (G l12) Try.prog mo o12 3000 11 a12 v12 e12)
theorem eb : @memo (G l13) Try.prog 3000 6 [] (.bool true) = true := by kernel_rfl
end Beg
theorem k6 : Pure Try.prog 6 [] (.bool true) := @memo_ok (Beg.G Beg.l13) Try.prog mo Beg.o13 3000 6 [] (.bool true) Beg.eb
theorem k47_0 : Pure Try.prog 47 [.flt .f64 0, .flt .f64 0] (.bool true) := memo_ok mo ov (n := 3000) (by kernel_rfl)
theorem k47_1 : Pure Try.prog 47 [.flt .f64 4609434218613702656, .flt .f64 4609434218613702656] (.bool true) := memo_ok mo ov (n := 3000) (by kernel_rfl)
theorem k47_2 : Pure Try.prog 47 [.flt .f64 4611686018427387904, .flt .f64 4611686018427387904] (.bool true) := memo_ok mo ov (n := 3000) (by kernel_rfl)
theorem k47_3 : Pure Try.prog 47 [.flt .f64 4598175219545276416, .flt .f64 4598175219545276416] (.bool true) := memo_ok mo ov (n := 3000) (by kernel_rfl)
end Go.Proofs.Ytjconanknjgpnaa.vars
set_option maxRecDepth 100000
set_option linter.unusedVariables false
set_option linter.unusedSimpArgs false
namespace Go.Proofs.Ytjconanknjgpnaa.vars
open Go Go.Sx
def c12 : VC := ⟨⟨[], []⟩, [(12, [none])], [(1, [⟨[(4, .slx 0 0 0), (1, .ptr 0 0), (3, .slx 1 7 1)], [(0, [64, 65, 66, 67, 68, 69, 70, 71, 72, 73])], 2, 2, [⟨1, 7, 1, 3, none⟩], [], []⟩])], 0, true, []⟩
def t12 : VT :=
 (.lt (.bin .eql 3 false true) [64, J 1] 74 none
 (.ite 74
 (.done (.vsl 1 7 [J 1, 70, J 0, J 0, 70, 71, 72]))
 (.lt (.bin .eql 3 false true) [64, J 2] 75 none
 (.ite 75
 (.done (.vsl 1 7 [J 2, J 0, 68, J 0, J 0, J 0, .flt .f64 0]))
 (.loop 76 0 [J 0, .nsl]
 (.cons 2
 (.lt (.len 38) [73] 78 none
 (.lt (.bin .lss 3 false false) [76, 78] 79 none
 (.ite 79
 (.lt (.iaddr 38) [73, 76] 80 none
 (.lt (.load 40) [80] 81 (some 10)
 (.call 12 [.agg [81, 82, 83, 84, 85, 86, 87, 88, 89, 90]] 91 [none]
 (.lt (.app 7 56) [77, 91] 92 none
 (.lt (.bin .add 3 false true) [76, J 1] 93 none
 (.again 0 0 [93, 92]))))))
 (.lt (.bin .eql 3 false true) [64, J 3] 80 none
 (.ite 80
 (.lt (.app 7 56) [77, .agg [J 3, J 0, 68, 69, J 0, J 0, .flt .f64 0]] 81 none
 (.done (81)))
 (.lt (.bin .eql 3 false true) [64, J 17] 81 none
 (.ite 81
 (.lt (.iaddr 38) [73, J 0] 82 none
 (.lt (.faddr 40 1) [82] 83 none
 (.lt (.load 3) [83] 84 none
 (.lt (.app 7 56) [77, .agg [J 17, 65, J 0, 84, J 0, J 0, .flt .f64 0]] 85 none
 (.done (85))))))
 (.lt (.iaddr 38) [73, J 0] 82 none
 (.lt (.faddr 40 1) [82] 83 none
 (.lt (.load 3) [83] 84 none
 (.lt (.app 7 56) [77, .agg [64, 84, J 0, J 0, J 0, J 0, .flt .f64 0]] 85 none
 (.done (85)))))))))))))
 .nil))))))
def c42 : VC := ⟨⟨[], []⟩, [(12, [none])], [(1, [⟨[(6, .slx 0 0 0), (3, .ptr 1 0), (0, .slx 2 7 1)], [(1, [65, 66, 67, 68, 69, 70, 71, 72, 73, 74, 75, 76, 77, 78, 79, 80, 81, 82, 83, 84, 85, 86, 87, 88, 89, 90, 91])], 3, 2, [⟨2, 7, 1, 0, none⟩], [], []⟩])], 0, true, [(23, ft23)]⟩
def t42 : VT :=
 (.lt (.len 30) [64] 92 none
 (.lt (.bin .eql 3 false true) [65, J 1] 93 none
 (.ite 93
 (.call 12 [.agg [76, 77, 78, 79, 80, 81, 82, 83, 84, 85]] 94 [none]
 (.lt (.app 7 56) [64, 94] 95 none
 (.lt (.bin .eql 3 false true) [66, J 3] 96 none
 (.ite 96
 (.lt (.iaddr 38) [75, J 0] 97 none
 (.lt (.load 40) [97] 98 (some 10)
 (.call 12 [.agg [98, 99, 100, 101, 102, 103, 104, 105, 106, 107]] 108 [none]
 (.chk (.pos 108)
 (.lt (.app 7 56) [95, 108] 109 none
 (.lt (.app 7 56) [109, .vsl 1 7 [J 19, J 0, 70, 71, J 0, J 0, .flt .f64 0]] 110 none
 (.done (.tup [J 0, 110]))))))))
 (.lt (.app 7 56) [95, .agg [J 18, J 0, 70, J 0, J 0, J 0, .flt .f64 0]] 97 none
 (.done (.tup [J 0, 97])))))))
 (.lt (.bin .eql 3 false true) [65, J 4] 94 none
 (.ite 94
 (.loop 95 0 [J 0, 64]
 (.cons 2
 (.lt (.len 38) [91] 97 none
 (.lt (.bin .lss 3 false false) [95, 97] 98 none
 (.ite 98
 (.lt (.iaddr 38) [91, 95] 99 none
 (.lt (.load 40) [99] 100 (some 10)
 (.call 12 [.agg [100, 101, 102, 103, 104, 105, 106, 107, 108, 109]] 110 [none]
 (.lt (.app 7 56) [96, 110] 111 none
 (.lt (.bin .add 3 false true) [95, J 1] 112 none
 (.again 0 0 [112, 111]))))))
 (.lt (.len 38) [91] 99 none
 (.lt (.app 7 56) [96, .agg [J 22, 89, 90, 99, J 0, J 0, .flt .f64 0]] 100 none
 (.done (.tup [J 0, 100])))))))
 .nil))
 (.call 12 [.agg [76, 77, 78, 79, 80, 81, 82, 83, 84, 85]] 95 [none]
 (.lt (.app 7 56) [64, 95] 96 none
 (.lt (.len 30) [96] 97 none
 (.lt (.app 7 56) [96, .agg [J 21, J 0, J 0, J 0, J 0, J 0, .flt .f64 0]] 98 none
 (.callF 23 ft23 [98, 86] 99
 (.cons 1
 (.lt (.bin .eql 3 false true) [65, J 3] 102 none
 (.ite 102
 (.lt (.app 7 56) [101, .agg [J 20, J 0, 92, J 0, J 0, J 0, .flt .f64 0]] 103 none
 (.lt (.len 30) [103] 104 none
 (.lt .inb [103, 97] 105 none
 (.lt (.stx 3 7 2) [103, 105, 104] 106 none
 (.chk (.same 103 106)
 (.done (.tup [J 0, 106])))))))
 (.lt (.len 25) [87] 103 none
 (.lt (.bin .eql 3 false true) [103, J 0] 104 none
 (.ite 104
 (.lt (.len 30) [101] 105 none
 (.lt .inb [101, 97] 106 none
 (.lt (.stx 3 7 2) [101, 106, 105] 107 none
 (.chk (.same 101 107)
 (.done (.tup [J 0, 107]))))))
 (.lt (.len 30) [101] 105 none
 (.lt (.app 7 56) [101, .agg [J 20, J 0, J 0, J 0, J 0, J 0, .flt .f64 0]] 106 none
 (.lt (.len 30) [106] 107 none
 (.lt .inb [106, 97] 108 none
 (.lt (.stx 3 7 2) [106, 108, 107] 109 none
 (.chk (.same 106 109)
 (.callF 23 ft23 [109, 87] 110
 (.cons 1
 (.lt (.len 30) [112] 113 none
 (.lt .inb [112, 105] 114 none
 (.lt (.stx 3 7 2) [112, 114, 113] 115 none
 (.chk (.same 112 115)
 (.done (.tup [J 0, 115]))))))
 .nil)))))))))))))
 .nil)))))))))))
def c23 : VC := ⟨⟨[], []⟩, [], [(0, [⟨[(5, .slx 0 0 0), (1, 65), (0, .slx 0 7 1)], [], 1, 2, [⟨0, 7, 1, 0, none⟩], [], []⟩])], 0, true, [(42, ft42)]⟩
def t23 : VT :=
 (.loop 66 0 [J 0, 64]
 (.cons 2
 (.lt (.len 25) [65] 68 none
 (.lt (.bin .lss 3 false false) [66, 68] 69 none
 (.ite 69
 (.lt (.iaddr 25) [65, 66] 70 none
 (.lt (.load 42) [70] 71 (some 27)
 (.callF 42 ft42 [67, 71, 72, 73, 74, 75, 76, 77, 78, 79, 80, 81, 82, 83, 84, 85, 86, 87, 88, 89, 90, 91, 92, 93, 94, 95, 96, 97] 98
 (.cons 1
 (.lt (.bin .add 3 false true) [66, J 1] 127 none
 (.again 0 0 [127, 126]))
 .nil))))
 (.done (.tup [J 0, 67])))))
 .nil))
def c9 : VC := ⟨⟨[], []⟩, [], [], 0, true, [(23, ft23)]⟩
def t9 : VT :=
 (.callF 23 ft23 [.nsl, 65] 66
 (.cons 1
 (.lt (.app 7 56) [68, .agg [J 23, J 0, J 0, J 0, J 0, J 0, .flt .f64 0]] 69 none
 (.lt (.len 30) [69] 70 none
 (.lt (.bin .gtr 3 false true) [70, J 400] 71 none
 (.ite 71
 (.done (.tup [.nsl, J 12]))
 (.done (.tup [69, J 0]))))))
 .nil))
def c10 : VC := ⟨⟨[], []⟩, [(14, [none])], [(0, [⟨[(5, .slx 0 0 0), (1, 65), (0, 64)], [], 0, 1, [], [], []⟩])], 0, true, []⟩
def t10 : VT :=
 (.lt (.len 30) [64] 66 none
 (.lt (.len 30) [65] 67 none
 (.lt (.bin .neq 3 false false) [66, 67] 68 none
 (.ite 68
 (.done (.bool false))
 (.loop 69 0 [J 0]
 (.cons 1
 (.lt (.len 30) [64] 70 none
 (.lt (.bin .lss 3 false false) [69, 70] 71 none
 (.ite 71
 (.lt (.iaddr 30) [64, 69] 72 none
 (.lt (.load 47) [72] 73 (some 7)
 (.lt (.iaddr 30) [65, 69] 80 none
 (.lt (.load 47) [80] 81 (some 7)
 (.call 14 [.agg [73, 74, 75, 76, 77, 78, 79], .agg [81, 82, 83, 84, 85, 86, 87]] 88 [none]
 (.lt (.un .not) [88] 89 none
 (.ite 89
 (.done (.bool false))
 (.lt (.bin .add 3 false true) [69, J 1] 90 none
 (.again 0 0 [90])))))))))
 (.done (.bool true)))))
 .nil))))))
theorem run_appv (l : List GI) (i : GI) (hl : l.length ≤ 1000000) : (XOp.app 7 56).run Try.prog [insts l, .vsl 1 7 (encG i)] = some (insts (l ++ [i])) := run_app_sls (enc := encG) lenG (by decide) (by decide) l [i] (by simp only [List.length_cons, List.length_nil]; omega)
theorem run_apps (l q : List GI) (hl : l.length + q.length ≤ 1000000) : (XOp.app 7 56).run Try.prog [insts l, insts q] = some (insts (l ++ q)) := run_app_sls lenG (by decide) (by decide) l q (by omega)
theorem p12 : ∀ (d : Nat) (x : GX), d ≤ 10 → TX d x → Pure Try.prog 12 [.agg (encX x)] (insts (genE x))
 | 0, _, _, h => h.elim
 | d + 1, .mk op kd nm fd ad n vk vi vf args, hd, hx => by
   have hge := genE_len hx
   have hp : 2 ^ (d + 1) ≤ 2 ^ 10 := Nat.pow_le_pow_right (by decide) hd
   have hgl : (genE (.mk op kd nm fd ad n vk vi vf args)).length = (genEs args).length + 1 := by simp only [genE, List.length_append, List.length_cons, List.length_nil]
   obtain ⟨h1, _, _, _, _, h6⟩ := hx
   have hal : args.length ≤ 2 := by unfold Ari at h1; omega
   have hE : ∀ i, (genEs (args.take i)).length ≤ (genEs args).length := fun i => by
    have := congrArg List.length (genEs_app (args.take i) (args.drop i))
    rw [List.take_append_drop, List.length_append] at this
    omega
   refine pure_shape (sh := [some 10]) (ls := encX (.mk op kd nm fd ad n vk vi vf args)) (c := c12) (n := 300) (t := t12) mo ov rfl (okX _) (okC_noRef (okI _)) (fun Y _ => known0 _) rfl (by kernel_rfl) fun Y hf hg => ?_
   unfold t12
   (refine it_c rfl rfl (fun h => ?_) (fun h => ?_) <;> simp only [Cmp, Decidable.not_not, Int.not_lt, Int.not_le] at h <;> try (exfalso; first | exact h trivial | omega))
   ·obtain rfl : args = [] := by
      cases args with
      | nil => rfl
      | cons a r => unfold Ari at h1; simp only [List.length_cons] at h1; omega
    subst h
    exact VOK_done rfl
   (refine it_c rfl rfl (fun h => ?_) (fun h => ?_) <;> simp only [Cmp, Decidable.not_not, Int.not_lt, Int.not_le] at h <;> try (exfalso; first | exact h trivial | omega))
   ·obtain rfl : args = [] := by
      cases args with
      | nil => rfl
      | cons a r => unfold Ari at h1; simp only [List.length_cons] at h1; omega
    subst h
    exact VOK_done rfl
   refine VOK_loop (ι := Nat) (fun i => [.int .i64 (i : Int), insts (genEs (args.take i))]) (fun i => i ≤ args.length) (fun i => args.length - i) 0 (Nat.zero_le _) (by simp [genEs]; rfl) (fun i _ => by simp only [okL, okC, okI]) (fun i j _ _ h => by simp at h; omega) (fun i hi => ?_)
   refine VOK_lt (run_len38 args) rfl ?_
   (refine it_c rfl rfl (fun h => ?_) (fun h => ?_) <;> simp only [Cmp, Decidable.not_not, Int.not_lt, Int.not_le] at h <;> try (exfalso; first | exact h trivial | omega))
   ·have hi : i < args.length := by omega
    have hld := run_ld40 args hi
    have hg : genEs (args.take (i + 1)) = genEs (args.take i) ++ genE args[i] := by
     rw [List.take_succ_eq_append_getElem hi, genEs_app]; simp only [genEs, List.append_nil]
    have hz := p12 d args[i] (by omega) (h6 _ (List.getElem_mem hi))
    have hl : (genEs (args.take i)).length + (genE args[i]).length ≤ 1000000 := by
     have := hE (i + 1)
     rw [hg, List.length_append] at this
     omega
    rcases hzz : args[i] with ⟨zo, zk, znm, zfd, zad, zn, zvk, zvi, zvf, za⟩
    rw [hzz] at hld hz hg hl
    refine VOK_lt (run_ia38 args hi) (encL_ok okX _) (VOK_ltN hld rfl (okX _) (VOK_call hz rfl (by simp only [okL, okI]) (VOK_lt (run_apps _ _ hl) (okI _) ?_)))
    exact VOK_lt (add_c (by omega) (by omega)) rfl (VOK_again rfl ⟨i + 1, hi, by rw [hg]; rfl, by omega⟩)
   have hi : i = args.length := by omega
   subst hi
   rw [List.take_length]
   have hlen : (genEs args).length ≤ 1000000 := by omega
   have fin : ∀ i : GI, instE op kd ad n vk vi vf args = i → insts (genEs args ++ [i]) = insts (genE (.mk op kd nm fd ad n vk vi vf args)) := fun i hi => by
    simp only [genE, hi]
   (refine it_c rfl rfl (fun h => ?_) (fun h => ?_) <;> simp only [Cmp, Decidable.not_not, Int.not_lt, Int.not_le] at h <;> try (exfalso; first | exact h trivial | omega))
   ·exact VOK_lt (run_app7 _ (ins 3 0 ad n) hlen) (okI _) (VOK_done (fin _ (by unfold instE; rw [if_neg (by omega), if_neg (by omega), if_pos h])))
   have h0 : 1 ≤ args.length := by unfold Ari at h1; omega
   obtain ⟨y, r, rfl⟩ : ∃ y r, args = y :: r := by
    cases args with
    | nil => simp at h0
    | cons y r => exact ⟨y, r, rfl⟩
   obtain ⟨y1, y2, y3, y4, y5, y6, y7, y8, y9, y10⟩ := y
   (refine it_c rfl rfl (fun h => ?_) (fun h => ?_) <;> simp only [Cmp, Decidable.not_not, Int.not_lt, Int.not_le] at h <;> try (exfalso; first | exact h trivial | omega))
   ·refine VOK_lt (r := .vptr (encX (.mk y1 y2 y3 y4 y5 y6 y7 y8 y9 y10) ++ encXs r)) rfl (by show okL _ = true; exact encL_ok.okL_join (okX _) (okXs _)) ?_
    refine VOK_lt (r := .vptr ([.int .i64 y2, .str y3, .str y4, .int .i64 y5, .int .i64 y6, .int .i64 y7, .int .i64 y8, .flt .f64 y9, encA y10] ++ encXs r)) rfl (by show okL _ = true; exact encL_ok.okL_join (by simp only [okC, okL, okA]) (okXs _)) (VOK_lt (r := .int .i64 y2) rfl rfl ?_)
    exact VOK_lt (run_app7 _ (ins 17 kd 0 y2) hlen) (okI _) (VOK_done (fin _ (by unfold instE; rw [if_neg (by omega), if_neg (by omega), if_neg (by omega), if_pos (by assumption)]; rfl)))
   ·refine VOK_lt (r := .vptr (encX (.mk y1 y2 y3 y4 y5 y6 y7 y8 y9 y10) ++ encXs r)) rfl (by show okL _ = true; exact encL_ok.okL_join (okX _) (okXs _)) ?_
    refine VOK_lt (r := .vptr ([.int .i64 y2, .str y3, .str y4, .int .i64 y5, .int .i64 y6, .int .i64 y7, .int .i64 y8, .flt .f64 y9, encA y10] ++ encXs r)) rfl (by show okL _ = true; exact encL_ok.okL_join (by simp only [okC, okL, okA]) (okXs _)) (VOK_lt (r := .int .i64 y2) rfl rfl ?_)
    exact VOK_lt (run_app7 _ (ins op y2 0 0) hlen) (okI _) (VOK_done (fin _ (by unfold instE; rw [if_neg (by omega), if_neg (by omega), if_neg (by omega), if_neg (by assumption)]; rfl)))
theorem e12 {x : GX} (h : TX 5 x) : Pure Try.prog 12 [.agg (encX x)] (insts (genE x)) := p12 5 x (by decide) h
theorem pos_ok {Y : Sy} {i : Nat} {l : List GI} (h : Y.v i = some (insts l)) (hl : 0 < l.length) : (Chk.pos i).ok Y := by
 cases l with
 | nil => simp at hl
 | cons a r => exact ⟨_, _, _, h⟩
theorem genE_pos (x : GX) : 0 < (genE x).length := by cases x; simp [genE]
def P23 (d : Nat) : Prop := ∀ (x : List GS) (l : List GI), x.length ≤ 5 → (∀ s ∈ x, TS d s) → l.length + (genSs l.length x).length ≤ 900000 → CF Try.prog 23 ft23 [insts l, encB x] (R24 (l ++ genSs l.length x))
theorem p42 (d : Nat) (hT : ∀ e, d = e + 1 → P23 e) : ∀ (s : GS) (l : List GI), TS d s → l.length + (genS l.length s).length ≤ 900000 → CF Try.prog 42 ft42 (insts l :: encS s) (R24 (l ++ genS l.length s)) := by
 intro s l hs hl
 rcases d with _ | d
 ·exact hs.elim
 have hT := hT d rfl
 obtain ⟨op, to, e, thn, els, nm, kd, ad, args⟩ := s
 obtain ⟨gl, hgl⟩ : ∃ gl, gl = genS l.length (.mk op to e thn els nm kd ad args) := ⟨_, rfl⟩
 rw [← hgl] at hl ⊢
 obtain ⟨c, hc⟩ : ∃ c, c = genE e := ⟨_, rfl⟩
 obtain ⟨to1, to2, to3, to4, to5, to6, to7, to8, to9, to10⟩ := to
 obtain ⟨e1, e2, e3, e4, e5, e6, e7, e8, e9, e10⟩ := e
 refine cf_tree (c := c42) (n := 300) (t := t42) mo ov rfl (fun Y _ => known0 _) (by kernel_rfl) fun Y hf hg => ?_
 unfold t42
 refine VOK_lt (run_len30 _) rfl ?_
 rcases hs with ⟨rfl, a1, a2, a3, a4⟩ | ⟨ho, b1, b2, b3, b4, b5, b6⟩ | ⟨rfl, c1, c2⟩
 ·have hk := e12 a3
  rw [← hc] at hk
  have hgen : gl = c ++ genTo (.mk to1 to2 to3 to4 to5 to6 to7 to8 to9 to10) := by rw [hgl, hc]; simp [genS]
  subst hgen
  clear hgl
  simp only [GX.op] at a2
  simp only [genTo] at hl ⊢
  rw [List.length_append] at hl
  (refine it_c rfl rfl (fun h => ?_) (fun h => ?_) <;> simp only [Cmp, Decidable.not_not, Int.not_lt, Int.not_le] at h <;> try (exfalso; first | exact h trivial | omega))
  refine VOK_call hk rfl (by simp only [okL, okI]) (VOK_lt (run_apps _ _ (by omega)) (okI _) ?_)
  (refine it_c rfl rfl (fun h => ?_) (fun h => ?_) <;> simp only [Cmp, Decidable.not_not, Int.not_lt, Int.not_le] at h <;> try (exfalso; first | exact h trivial | omega))
  ·rw [if_pos h] at hl ⊢
   have hw := a1.1
   obtain ⟨y, rfl⟩ : ∃ y, to10 = [y] := by
    cases to10 with
    | nil => unfold Ari at hw; simp only [List.length_nil] at hw; omega
    | cons y r =>
      cases r with
      | nil => exact ⟨y, rfl⟩
      | cons z r => unfold Ari at hw; simp only [List.length_cons] at hw; omega
   have hy := e12 (TX_mono (by decide) (a1.2.2.2.2.2 y (List.mem_cons_self ..)))
   have hpos := genE_pos y
   simp only [genEs, List.append_nil, List.length_append, List.length_cons, List.length_nil] at hl ⊢
   have hld := run_ld40 [y] (i := 0) (by simp)
   obtain ⟨gy, hgy⟩ : ∃ gy, gy = genE y := ⟨_, rfl⟩
   rw [← hgy] at hl hy hpos ⊢
   obtain ⟨y1, y2, y3, y4, y5, y6, y7, y8, y9, y10⟩ := y
   refine VOK_lt (run_ia38 [_] (i := 0) (by simp)) (encL_ok okX _) (VOK_ltN hld rfl (okX _) (VOK_call hy rfl (by simp only [okL, okI]) (VOK_chk (pos_ok rfl hpos) ?_)))
   refine VOK_lt (run_apps _ _ (by simp only [List.length_append]; omega)) (okI _) (VOK_lt (run_appv _ (ins 19 0 to5 to6) (by simp only [List.length_append]; omega)) (okI _) (VOK_fin (ok1I _) ?_))
   exact congrArg (fun z => [insts z]) (by simp only [List.append_assoc])
  ·rw [if_neg h] at hl ⊢
   simp only [List.length_cons, List.length_nil] at hl
   refine VOK_lt (run_app7 _ (ins 18 0 to5 0) (by simp only [List.length_append]; omega)) (okI _) (VOK_fin (ok1I _) ?_)
   exact congrArg (fun z => [insts z]) (List.append_assoc ..)
 ·have hk := e12 b1
  rw [← hc] at hk
  obtain ⟨t, ht⟩ : ∃ t, t = genSs (l.length + c.length + 1) thn := ⟨_, rfl⟩
  obtain ⟨q, hq⟩ : ∃ q, q = genSs (l.length + c.length + 1 + t.length + 1) els := ⟨_, rfl⟩
  have hlc : l.length + c.length + 1 + t.length ≤ 900000 := by
   rcases ho with rfl | rfl
   ·have hgen : gl = if els = [] then c ++ [ins 21 0 ((l.length + c.length + 1 + t.length : Nat) : Int) 0] ++ t else c ++ [ins 21 0 ((l.length + c.length + 1 + t.length + 1 : Nat) : Int) 0] ++ t ++ [ins 20 0 ((l.length + c.length + 1 + t.length + 1 + q.length : Nat) : Int) 0] ++ q := by
      rw [hgl, hq, ht, hc]; simp [genS]
    rw [hgen] at hl
    split at hl <;> simp only [List.length_append, List.length_cons, List.length_nil] at hl <;> omega
   ·have hgen : gl = c ++ [ins 21 0 ((l.length + c.length + 1 + t.length + 1 : Nat) : Int) 0] ++ t ++ [ins 20 0 (l.length : Int) 0] := by
      rw [hgl, ht, hc]; simp [genS]
    rw [hgen] at hl
    simp only [List.length_append, List.length_cons, List.length_nil] at hl
    omega
  have k3 := hT thn (l ++ c ++ [ins 21 0 0 0]) b3 b5 (by
   simp only [List.length_append, List.length_cons, List.length_nil, Nat.zero_add]
   rw [← ht]; omega)
  have e0 : (l ++ c ++ [ins 21 0 0 0]).length = l.length + c.length + 1 := by simp only [List.length_append, List.length_cons, List.length_nil]
  rw [e0, ← ht, List.append_assoc (l ++ c)] at k3
  have hlc1 : (l ++ c).length = l.length + c.length := List.length_append
  (refine it_c rfl rfl (fun h => ?_) (fun h => ?_) <;> simp only [Cmp, Decidable.not_not, Int.not_lt, Int.not_le] at h <;> try (exfalso; first | exact h trivial | omega))
  (refine it_c rfl rfl (fun h => ?_) (fun h => ?_) <;> simp only [Cmp, Decidable.not_not, Int.not_lt, Int.not_le] at h <;> try (exfalso; first | exact h trivial | omega))
  refine VOK_call hk rfl (by simp only [okL, okI]) (VOK_lt (run_apps _ _ (by omega)) (okI _) (VOK_lt (run_len30 _) rfl (VOK_lt (run_app7 _ (ins 21 0 0 0) (by omega)) (okI _) ?_)))
  refine callF' k3 rfl (okIB _ _) ⟨?_, trivial⟩
  rintro ws rfl
  (refine it_c rfl rfl (fun h => ?_) (fun h => ?_) <;> simp only [Cmp, Decidable.not_not, Int.not_lt, Int.not_le] at h <;> try (exfalso; first | exact h trivial | omega))
  ·have h3 : op = 3 := h
   subst h3
   have hgen : gl = c ++ [ins 21 0 ((l.length + c.length + 1 + t.length + 1 : Nat) : Int) 0] ++ t ++ [ins 20 0 (l.length : Int) 0] := by
    rw [hgl, ht, hc]; simp [genS]
   subst hgen
   have e2 : l ++ c ++ ([ins 21 0 0 0] ++ t) ++ [ins 20 0 (l.length : Int) 0] = l ++ c ++ ([ins 21 0 0 0] ++ (t ++ [ins 20 0 (l.length : Int) 0])) := by simp only [List.append_assoc]
   have ka := run_app7 (l ++ c ++ ([ins 21 0 0 0] ++ t)) (ins 20 0 (l.length : Int) 0) (by simp only [List.length_append, List.length_cons, List.length_nil]; omega)
   rw [e2] at ka
   refine VOK_lt ka (okI _) (VOK_lt (run_len30 _) rfl (VOK_lt (run_inb (i := (l ++ c).length) (by simp) .i64) rfl (VOK_lt (run_jump (l ++ c) 21 (t ++ [ins 20 0 (l.length : Int) 0]) _) (okI _) (VOK_chk (same_ok rfl rfl (by simp)) (VOK_fin (ok1I _) ?_)))))
   refine congrArg (fun z => [insts z]) ?_
   simp only [List.append_assoc, List.length_append, List.length_cons, List.length_nil]
   have x1 : l.length + (c.length + (0 + 1 + (t.length + (0 + 1)))) = l.length + c.length + 1 + t.length + 1 := by omega
   rw [x1]
  have h2 : op = 2 := by omega
  subst h2
  have hgen : gl = if els = [] then c ++ [ins 21 0 ((l.length + c.length + 1 + t.length : Nat) : Int) 0] ++ t else c ++ [ins 21 0 ((l.length + c.length + 1 + t.length + 1 : Nat) : Int) 0] ++ t ++ [ins 20 0 ((l.length + c.length + 1 + t.length + 1 + q.length : Nat) : Int) 0] ++ q := by
   rw [hgl, hq, ht, hc]; simp [genS]
  subst hgen
  refine VOK_lt (run_len25 els) rfl ?_
  (refine it_c rfl rfl (fun h => ?_) (fun h => ?_) <;> simp only [Cmp, Decidable.not_not, Int.not_lt, Int.not_le] at h <;> try (exfalso; first | exact h trivial | omega))
  ·have hne : els = [] := by
     cases els with
     | nil => rfl
     | cons a r => simp at h; omega
   rw [if_pos hne]
   refine VOK_lt (run_len30 _) rfl (VOK_lt (run_inb (i := (l ++ c).length) (by simp) .i64) rfl (VOK_lt (run_jump (l ++ c) 21 t _) (okI _) (VOK_chk (same_ok rfl rfl (by simp)) (VOK_fin (ok1I _) ?_))))
   refine congrArg (fun z => [insts z]) ?_
   simp only [List.append_assoc, List.length_append, List.length_cons, List.length_nil]
   have x1 : l.length + (c.length + (0 + 1 + t.length)) = l.length + c.length + 1 + t.length := by omega
   rw [x1]
  have hne : els ≠ [] := fun e => by subst e; simp at h
  rw [if_neg hne] at hl ⊢
  simp only [List.length_append, List.length_cons, List.length_nil] at hl
  have e2 : l ++ c ++ ([ins 21 0 0 0] ++ t) ++ [ins 20 0 0 0] = l ++ c ++ ([ins 21 0 0 0] ++ (t ++ [ins 20 0 0 0])) := by simp only [List.append_assoc]
  have ka := run_app7 (l ++ c ++ ([ins 21 0 0 0] ++ t)) (ins 20 0 0 0) (by simp only [List.length_append, List.length_cons, List.length_nil]; omega)
  rw [e2] at ka
  refine VOK_lt (run_len30 _) rfl (VOK_lt ka (okI _) ?_)
  refine VOK_lt (run_len30 _) rfl (VOK_lt (run_inb (i := (l ++ c).length) (by simp) .i64) rfl (VOK_lt (run_jump (l ++ c) 21 (t ++ [ins 20 0 0 0]) _) (okI _) (VOK_chk (same_ok rfl rfl (by simp)) ?_)))
  have e5' : (l ++ c ++ ([ins 21 0 0 0] ++ (t ++ [ins 20 0 0 0]))).length = l.length + c.length + 1 + t.length + 1 := by simp only [List.length_append, List.length_cons, List.length_nil]; omega
  have k5 := hT els (l ++ c ++ ([ins 21 0 ((l ++ c ++ ([ins 21 0 0 0] ++ (t ++ [ins 20 0 0 0]))).length : Int) 0] ++ (t ++ [ins 20 0 0 0]))) b4 b6 (by
   simp only [List.length_append, List.length_cons, List.length_nil]
   rw [show l.length + c.length + (0 + 1 + (t.length + (0 + 1))) = l.length + c.length + 1 + t.length + 1 by omega, ← hq]; omega)
  have e6' : (l ++ c ++ ([ins 21 0 ((l ++ c ++ ([ins 21 0 0 0] ++ (t ++ [ins 20 0 0 0]))).length : Int) 0] ++ (t ++ [ins 20 0 0 0]))).length = l.length + c.length + 1 + t.length + 1 := by simp only [List.length_append, List.length_cons, List.length_nil]; omega
  rw [e6', ← hq] at k5
  have e7' : l ++ c ++ ([ins 21 0 ((l ++ c ++ ([ins 21 0 0 0] ++ (t ++ [ins 20 0 0 0]))).length : Int) 0] ++ (t ++ [ins 20 0 0 0])) ++ q = (l ++ c ++ ([ins 21 0 ((l ++ c ++ ([ins 21 0 0 0] ++ (t ++ [ins 20 0 0 0]))).length : Int) 0] ++ t)) ++ ([ins 20 0 0 0] ++ q) := by simp only [List.append_assoc]
  rw [e7'] at k5
  refine callF' k5 rfl (okIB _ _) ⟨?_, trivial⟩
  rintro ws rfl
  have e8' : (((l ++ c ++ ([ins 21 0 0 0] ++ t)).length : Nat) : Int) = (((l ++ c ++ ([ins 21 0 ((l ++ c ++ ([ins 21 0 0 0] ++ (t ++ [ins 20 0 0 0]))).length : Int) 0] ++ t)).length : Nat) : Int) := by simp only [List.length_append, List.length_cons, List.length_nil]
  refine VOK_lt (run_len30 _) rfl (VOK_lt (r := .int .i64 (((l ++ c ++ ([ins 21 0 ((l ++ c ++ ([ins 21 0 0 0] ++ (t ++ [ins 20 0 0 0]))).length : Int) 0] ++ t)).length : Nat) : Int)) (by rw [← e8']; exact run_inb (i := (l ++ c ++ ([ins 21 0 0 0] ++ t)).length) (by simp) .i64) rfl (VOK_lt (run_jump _ 20 q _) (okI _) (VOK_chk (same_ok rfl rfl (by simp)) (VOK_fin (ok1I _) ?_))))
  refine congrArg (fun z => [insts z]) ?_
  rw [e5']
  simp only [List.append_assoc, List.length_append, List.length_cons, List.length_nil]
  have x1 : l.length + (c.length + (0 + 1 + (t.length + (0 + 1 + q.length)))) = l.length + c.length + 1 + t.length + 1 + q.length := by omega
  rw [x1]
 ·have hgen : gl = genEs args ++ [ins 22 kd ad (args.length : Int)] := by rw [hgl]; simp [genS]
  subst hgen
  clear hgl
  simp only [List.length_append, List.length_cons, List.length_nil] at hl
  have hal : args.length ≤ 2 := by
   rcases c1 with ⟨_, _, c1⟩ | ⟨_, _, c1⟩ | ⟨_, _, c1⟩ <;> (have := congrArg List.length c1; simp at this; omega)
  have hE : ∀ i, (genEs (args.take i)).length ≤ (genEs args).length := fun i => by
   have := congrArg List.length (genEs_app (args.take i) (args.drop i))
   rw [List.take_append_drop, List.length_append] at this
   omega
  (refine it_c rfl rfl (fun h => ?_) (fun h => ?_) <;> simp only [Cmp, Decidable.not_not, Int.not_lt, Int.not_le] at h <;> try (exfalso; first | exact h trivial | omega))
  (refine it_c rfl rfl (fun h => ?_) (fun h => ?_) <;> simp only [Cmp, Decidable.not_not, Int.not_lt, Int.not_le] at h <;> try (exfalso; first | exact h trivial | omega))
  refine VOK_loop (ι := Nat) (fun i => [.int .i64 (i : Int), insts (l ++ genEs (args.take i))]) (fun i => i ≤ args.length) (fun i => args.length - i) 0 (Nat.zero_le _) (by simp [genEs]; rfl) (fun i _ => by simp only [okL, okC, okI]) (fun i j _ _ h => by simp at h; omega) (fun i hi => ?_)
  refine VOK_lt (run_len38 args) rfl ?_
  (refine it_c rfl rfl (fun h => ?_) (fun h => ?_) <;> simp only [Cmp, Decidable.not_not, Int.not_lt, Int.not_le] at h <;> try (exfalso; first | exact h trivial | omega))
  ·have hi : i < args.length := by omega
   have hld := run_ld40 args hi
   have hg : genEs (args.take (i + 1)) = genEs (args.take i) ++ genE args[i] := by
    rw [List.take_succ_eq_append_getElem hi, genEs_app]; simp only [genEs, List.append_nil]
   have hz := e12 (c2 _ (List.getElem_mem hi))
   have hl2 : (l ++ genEs (args.take i)).length + (genE args[i]).length ≤ 1000000 := by
    have := hE (i + 1)
    rw [hg, List.length_append] at this
    rw [List.length_append]; omega
   rcases hzz : args[i] with ⟨zo, zk, znm, zfd, zad, zn, zvk, zvi, zvf, za⟩
   rw [hzz] at hld hz hg hl2
   refine VOK_lt (run_ia38 args hi) (encL_ok okX _) (VOK_ltN hld rfl (okX _) (VOK_call hz rfl (by simp only [okL, okI]) (VOK_lt (run_apps _ _ hl2) (okI _) ?_)))
   refine VOK_lt (add_c (by omega) (by omega)) rfl (VOK_again rfl ⟨i + 1, hi, ?_, by omega⟩)
   rw [hg, ← List.append_assoc]; rfl
  have hi : i = args.length := by omega
  subst hi
  rw [List.take_length]
  refine VOK_lt (run_len38 args) rfl (VOK_lt (run_app7 _ (ins 22 kd ad (args.length : Int)) (by rw [List.length_append]; omega)) (okI _) (VOK_fin (ok1I _) ?_))
  exact congrArg (fun z => [insts z]) (List.append_assoc ..)
theorem p23 (d : Nat) (hT : ∀ e, d = e + 1 → P23 e) : P23 d := by
 intro x l hx5 hx hl
 refine cf_tree (c := c23) (n := 300) (t := t23) mo ov rfl (fun Y _ => known0 _) (by kernel_rfl) fun Y hf hg => ?_
 unfold t23
 refine VOK_loop (ι := Nat) (fun i => [.int .i64 (i : Int), insts (l ++ genSs l.length (x.take i))]) (fun i => i ≤ x.length) (fun i => x.length - i) 0 (Nat.zero_le _) (by simp [genSs]; rfl) (fun i _ => by simp only [okL, okC, okI]) (fun i j _ _ h => by simp at h; omega) (fun i hi => ?_)
 refine VOK_lt (run_len25 x) rfl ?_
 (refine it_c rfl rfl (fun h => ?_) (fun h => ?_) <;> simp only [Cmp, Decidable.not_not, Int.not_lt, Int.not_le] at h <;> try (exfalso; first | exact h trivial | omega))
 ·have hi : i < x.length := by omega
  have hg := genSs_take l.length x hi
  have hle := genSs_le l.length x (i + 1)
  have hz := p42 d hT x[i] (l ++ genSs l.length (x.take i)) (hx _ (List.getElem_mem hi)) (by
   rw [hg, List.length_append] at hle
   rw [List.length_append]; omega)
  have hld := run_ld42 x hi
  rw [List.length_append] at hz
  rcases hzz : x[i] with ⟨z1, ⟨a1, a2, a3, a4, a5, a6, a7, a8, a9, a10⟩, ⟨b1, b2, b3, b4, b5, b6, b7, b8, b9, b10⟩, z4, z5, z6, z7, z8, z9⟩
  rw [hzz] at hld hz hg
  refine VOK_lt (run_ia25 x hi) (encL_ok okS _) (VOK_ltN hld rfl (okS _) ?_)
  refine callF' hz rfl (okIS _ _) ⟨?_, trivial⟩
  rintro ws rfl
  refine VOK_lt (add_c (by omega) (by omega)) rfl (VOK_again rfl ⟨i + 1, hi, ?_, by omega⟩)
  rw [hg, ← List.append_assoc]; rfl
 ·have hi : i = x.length := by omega
  subst hi
  rw [List.take_length]
  exact VOK_fin (ok1I _) rfl
theorem P23_all : ∀ d, P23 d
 | 0 => p23 0 fun e h => by omega
 | d + 1 => p23 (d + 1) fun e h => by
   have : d = e := by omega
   subst this; exact P23_all d
theorem p9 {d : Nat} {v : AV} (hv : okC v = true) {x : List GS} (h5 : x.length ≤ 5) (hx : ∀ s ∈ x, TS d s) (hl : (genSs 0 x).length ≤ 900000) : Pure Try.prog 9 [.agg [v, encB x]] (progR x) := by
 have h : CF Try.prog 23 ft23 [.nsl, encB x] (R24 (genSs 0 x)) := P23_all d x [] h5 hx (by simpa using hl)
 refine pure_shape (sh := [some 2]) (ls := [v, encB x]) (c := c9) (n := 300) (t := t9) mo ov rfl (by simp only [okL, hv, okB]) (noRefR x) (fun Y _ => known0 _) rfl (by kernel_rfl) fun Y hf hg => ?_
 unfold t9
 refine callF' h rfl (by simp only [okL, okC, okB]) ⟨?_, trivial⟩
 rintro ws rfl
 refine VOK_lt (run_app7 _ (ins 23 0 0 0) (by omega)) (okI _) (VOK_lt (run_len30 _) rfl ?_)
 have hg : genSs 0 x ++ [ins 23 0 0 0] = genP x := rfl
 rw [hg]
 (refine it_c rfl rfl (fun h => ?_) (fun h => ?_) <;> simp only [Cmp, Decidable.not_not, Int.not_lt, Int.not_le] at h <;> try (exfalso; first | exact h trivial | omega))
 ·refine VOK_done ?_
  unfold progR pl pe
  rw [if_neg (by omega), if_neg (by omega)]; rfl
 ·refine VOK_done ?_
  unfold progR pl pe
  rw [if_pos (by omega), if_pos (by omega)]; rfl
end Go.Proofs.Ytjconanknjgpnaa.vars
set_option maxRecDepth 100000
set_option linter.unusedVariables false
set_option linter.unusedSimpArgs false
namespace Go.Proofs.Ytjconanknjgpnaa.vars
open Go Go.Sx
def c28 : VC := ⟨⟨[], []⟩, [(47, [none])], [], 0, true, []⟩
def t28 : VT :=
 (.lt (.bin .eql 3 false false) [64, 67] 70 none
 (.ite 70
 (.lt (.bin .eql 2 false false) [65, 68] 71 none
 (.ite 71
 (.call 47 [66, 69] 72 [none]
 (.done (72)))
 (.done (.bool false))))
 (.done (.bool false))))
def c14 : VC := ⟨⟨[], []⟩, [(28, [none])], [], 0, true, []⟩
def t14 : VT :=
 (.lt (.bin .eql 3 false false) [64, 71] 78 none
 (.ite 78
 (.lt (.bin .eql 3 false false) [65, 72] 79 none
 (.ite 79
 (.lt (.bin .eql 3 false false) [66, 73] 80 none
 (.ite 80
 (.lt (.bin .eql 3 false false) [67, 74] 81 none
 (.ite 81
 (.call 28 [.agg [68, 69, 70], .agg [75, 76, 77]] 82 [none]
 (.done (82)))
 (.done (.bool false))))
 (.done (.bool false))))
 (.done (.bool false))))
 (.done (.bool false))))
def c5 : VC := ⟨⟨[], []⟩, [(6, [none]), (8, [none, none]), (14, [none])], [(0, [⟨[(17, .slx 0 0 0), (10, 81), (12, 83), (14, 85), (16, 97)], [], 0, 1, [], [], []⟩])], 0, true, [(7, ft7)]⟩
def t5 : VT :=
 (.call 6 [] 66 [none]
 (.lt (.un .not) [66] 67 none
 (.ite 67
 (.done (.bool false))
 (.lt (.len 22) [64] 68 none
 (.lt (.bin .gtr 3 false true) [68, J 200] 69 none
 (.ite 69
 (.done (.bool true))
 (.callF 7 ft7 [64] 70
 (.cons 3
 (.lt (.un .not) [73] 74 none
 (.ite 74
 (.done (.bool true))
 (.lt (.conv 5 3) [65] 75 none
 (.lt (.len 25) [72] 76 none
 (.lt (.bin .add 3 false true) [76, J 1] 77 none
 (.lt (.bin .rem 3 false false) [75, 77] 78 none
 (.lt (.slc 25 false true) [72, 78] 79 none
 (.lt (.slc 25 true false) [72, 78] 80 none
 (.call 8 [.agg [71, 72]] 81 [none, none]
 (.call 8 [.agg [71, 79]] 83 [none, none]
 (.call 8 [.agg [71, 80]] 85 [none, none]
 (.lt (.bin .neq 31 false true) [82, J 0] 87 none
 (.ite 87
 (.lt (.bin .eql 31 false true) [82, J 12] 88 none
 (.done (88)))
 (.lt (.bin .neq 31 false true) [84, J 0] 88 none
 (.ite 88
 (.done (.bool false))
 (.lt (.bin .neq 31 false true) [86, J 0] 89 none
 (.ite 89
 (.done (.bool false))
 (.lt (.len 30) [81] 90 none
 (.lt (.len 30) [83] 91 none
 (.lt (.len 30) [85] 92 none
 (.lt (.bin .add 3 false false) [91, 92] 93 none
 (.lt (.bin .sub 3 false true) [93, J 1] 94 none
 (.lt (.bin .neq 3 false false) [90, 94] 95 none
 (.ite 95
 (.done (.bool false))
 (.lt (.len 30) [83] 96 none
 (.lt (.bin .sub 3 false true) [96, J 1] 97 none
 (.loop 98 0 [J 0]
 (.cons 1
 (.lt (.len 30) [81] 99 none
 (.lt (.bin .lss 3 false false) [98, 99] 100 none
 (.ite 100
 (.lt (.bin .lss 3 false false) [98, 97] 101 none
 (.ite 101
 (.lt (.iaddr 30) [83, 98] 102 none
 (.lt (.load 47) [102] 103 (some 7)
 (.lt (.iaddr 30) [81, 98] 110 none
 (.lt (.load 47) [110] 111 (some 7)
 (.call 14 [.agg [111, 112, 113, 114, 115, 116, 117], .agg [103, 104, 105, 106, 107, 108, 109]] 118 [none]
 (.lt (.un .not) [118] 119 none
 (.ite 119
 (.done (.bool false))
 (.lt (.bin .add 3 false true) [98, J 1] 120 none
 (.again 0 0 [120])))))))))
 (.lt (.bin .sub 3 false false) [98, 97] 102 none
 (.lt (.iaddr 30) [85, 102] 103 none
 (.lt (.load 47) [103] 104 (some 7)
 (.lt (.bin .eql 3 false true) [104, J 20] 111 none
 (.ite 111
 (.lt (.bin .add 3 false false) [106, 97] 112 none
 (.lt (.iaddr 30) [81, 98] 113 none
 (.lt (.load 47) [113] 114 (some 7)
 (.call 14 [.agg [114, 115, 116, 117, 118, 119, 120], .agg [104, 105, 112, 107, 108, 109, 110]] 121 [none]
 (.lt (.un .not) [121] 122 none
 (.ite 122
 (.done (.bool false))
 (.lt (.bin .add 3 false true) [98, J 1] 123 none
 (.again 0 0 [123]))))))))
 (.lt (.bin .eql 3 false true) [104, J 21] 112 none
 (.ite 112
 (.lt (.bin .add 3 false false) [106, 97] 113 none
 (.lt (.iaddr 30) [81, 98] 114 none
 (.lt (.load 47) [114] 115 (some 7)
 (.call 14 [.agg [115, 116, 117, 118, 119, 120, 121], .agg [104, 105, 113, 107, 108, 109, 110]] 122 [none]
 (.lt (.un .not) [122] 123 none
 (.ite 123
 (.done (.bool false))
 (.lt (.bin .add 3 false true) [98, J 1] 124 none
 (.again 0 0 [124]))))))))
 (.lt (.iaddr 30) [81, 98] 113 none
 (.lt (.load 47) [113] 114 (some 7)
 (.call 14 [.agg [114, 115, 116, 117, 118, 119, 120], .agg [104, 105, 106, 107, 108, 109, 110]] 121 [none]
 (.lt (.un .not) [121] 122 none
 (.ite 122
 (.done (.bool false))
 (.lt (.bin .add 3 false true) [98, J 1] 123 none
 (.again 0 0 [123]))))))))))))))))
 (.done (.bool true)))))
 .nil))))))))))))))))))))))))))))
 .nil))))))))
theorem p47 {f : Nat} (h : Flt4 f) : Pure Try.prog 47 [.flt .f64 f, .flt .f64 f] (.bool true) := by
 rcases h with rfl | rfl | rfl | rfl
 ·exact k47_0
 ·exact k47_1
 ·exact k47_2
 ·exact k47_3
theorem p28 (k i : Int) {f : Nat} (h : Flt4 f) : Pure Try.prog 28 [.agg [.int .i64 k, .int .i64 i, .flt .f64 f], .agg [.int .i64 k, .int .i64 i, .flt .f64 f]] (.bool true) := by
 refine pure_shape (sh := [some 3, some 3]) (ls := [.int .i64 k, .int .i64 i, .flt .f64 f, .int .i64 k, .int .i64 i, .flt .f64 f]) (c := c28) (n := 300) (t := t28) mo ov rfl rfl rfl (fun Y _ => known0 _) rfl (by kernel_rfl) fun Y hf hg => ?_
 unfold t28
 refine it_eq rfl (fun _ => ?_) (fun h => absurd rfl h)
 refine it_eq rfl (fun _ => ?_) (fun h => absurd rfl h)
 exact VOK_call (p47 h) rfl rfl (VOK_done rfl)
theorem p14 {i j : GI} (e : i = j) (h : Flt4 i.vf) : Pure Try.prog 14 [.agg (encG i), .agg (encG j)] (.bool true) := by
 subst e
 refine pure_shape (sh := [some 7, some 7]) (ls := encG i ++ encG i) (c := c14) (n := 300) (t := t14) mo ov rfl rfl rfl (fun Y _ => known0 _) rfl (by kernel_rfl) fun Y hf hg => ?_
 unfold t14
 refine it_eq rfl (fun _ => ?_) (fun h => absurd rfl h)
 refine it_eq rfl (fun _ => ?_) (fun h => absurd rfl h)
 refine it_eq rfl (fun _ => ?_) (fun h => absurd rfl h)
 refine it_eq rfl (fun _ => ?_) (fun h => absurd rfl h)
 exact VOK_call (p28 _ _ h) rfl rfl (VOK_done rfl)
theorem run_ia30 (l : List GI) {i : Nat} (h : i < l.length) : (XOp.iaddr 30).run Try.prog [insts l, .int .i64 (i : Int)] = some (.vptr (encL encG (l.drop i))) :=
 run_iaddr_sl (e := 47) (ti := (Try.prog.info? 47).get!) Try.underlying30 (by kernel_rfl) (by kernel_rfl) lenG h .i64
theorem run_ld47 (l : List GI) {i : Nat} (h : i < l.length) : (XOp.load 47).run Try.prog [.vptr (encL encG (l.drop i))] = some (.agg (encG l[i])) :=
 run_load_agg (ti := (Try.prog.info? 47).get!) Try.underlying47 rfl (by kernel_rfl) (by kernel_rfl) lenG h
theorem p5 {l : List UInt8} {a : AV} (hp : Pk l a) (c : Nat) (hc : c < 256) : Pure Try.prog 5 [a, .int .u8 (c : Int)] (.bool true) := by
 have hA := hp.1.ok okC8
 refine pure_shape (sh := [none, none]) (ls := [a, .int .u8 (c : Int)]) (c := c5) (n := 300) (t := t5) mo ov rfl (by simp only [okL, okC, hA]) rfl (fun Y _ => known0 _) rfl (by kernel_rfl) fun Y hf hg => ?_
 unfold t5
 refine VOK_call k6 rfl rfl (VOK_lt rfl rfl (VOK_ite rfl (fun h => by cases h) (fun _ => ?_)))
 refine VOK_lt (len22 hp) rfl ?_
 (refine it_c rfl rfl (fun h => ?_) (fun h => ?_) <;> simp only [Cmp, Decidable.not_not, Int.not_lt, Int.not_le] at h <;> try (exfalso; first | exact h trivial | omega))
 ·exact VOK_done rfl
 refine callF' (p7 hp) rfl (by simp only [okL, hA]) ⟨?_, trivial⟩
 rintro ws ⟨v, b, e, rfl, hv, hb⟩
 refine VOK_lt (run_not ..) rfl (VOK_ite rfl (fun h => VOK_done rfl) (fun h => ?_))
 obtain ⟨rfl, hb5, hT⟩ := hb (by simpa using h)
 refine VOK_lt (cv5_3 c hc) rfl (VOK_lt (run_len25 b) rfl (VOK_lt (add_c (by omega) (by omega)) rfl (VOK_lt (run_rem c (b.length + 1) (by omega) (by omega) ..) rfl ?_)))
 obtain ⟨k, hk⟩ : ∃ k, k = c % (b.length + 1) := ⟨_, rfl⟩
 have hkb : k ≤ b.length := by have := Nat.mod_lt c (show 0 < b.length + 1 by omega); omega
 rw [← hk]
 have hsl : SlV encS 27 b (encB b) := by rw [encB_eq]; exact SlV.of b
 obtain ⟨r1, hr1, hs1⟩ := hsl.slc01 (P := Try.prog) (ti := (Try.prog.info? 42).get!) Try.underlying25 (by kernel_rfl) (by kernel_rfl) lenS (k := .i64) hkb
 obtain ⟨r2, hr2, hs2⟩ := hsl.slc10 (P := Try.prog) (ti := (Try.prog.info? 42).get!) Try.underlying25 (by kernel_rfl) (by kernel_rfl) lenS (k := .i64) hkb
 refine VOK_lt hr1 (hs1.ok okS) (VOK_lt hr2 (hs2.ok okS) ?_)
 obtain ⟨x, hx⟩ : ∃ x, x = b.take k := ⟨_, rfl⟩
 obtain ⟨y, hy⟩ : ∃ y, y = b.drop k := ⟨_, rfl⟩
 rw [← hx] at hs1
 rw [← hy] at hs2
 have hxy : b = x ++ y := by rw [hx, hy, List.take_append_drop]
 have hx5 : x.length ≤ 5 := by have := congrArg List.length hxy; rw [List.length_append] at this; omega
 have hy5 : y.length ≤ 5 := by have := congrArg List.length hxy; rw [List.length_append] at this; omega
 have hTx : ∀ s ∈ x, TS 3 s := fun s hs => hT s (by rw [hxy]; exact List.mem_append_left _ hs)
 have hTy : ∀ s ∈ y, TS 3 s := fun s hs => hT s (by rw [hxy]; exact List.mem_append_right _ hs)
 have hbl := genSs3 hb5 hT 0
 refine VOK_call (p8 (v := VARS) rfl hsl hb5 hT (by omega)) rfl (by simp only [okL, okPl, okC]) ?_
 refine VOK_call (p8 (v := VARS) rfl hs1 hx5 hTx (by have := genSs3 hx5 hTx 0; omega)) rfl (by simp only [okL, okPl, okC]) ?_
 refine VOK_call (p8 (v := VARS) rfl hs2 hy5 hTy (by have := genSs3 hy5 hTy 0; omega)) rfl (by simp only [okL, okPl, okC]) ?_
 have hparts : genP b = genSs 0 x ++ (genP y).map (sh (genSs 0 x).length) := by rw [hxy]; exact genP_parts hTy
 have hgx : genP x = genSs 0 x ++ [ins 23 0 0 0] := rfl
 have hlx : (genP x).length = (genSs 0 x).length + 1 := by rw [hgx, List.length_append]; rfl
 have hly : 1 ≤ (genP y).length := by simp [genP]
 have hlb : (genP b).length = (genSs 0 x).length + (genP y).length := by rw [hparts, List.length_append, List.length_map]
 by_cases hfit : (genP b).length ≤ 400
 ·have e0 : pe b = 0 := if_pos hfit
  have e1 : pl b = insts (genP b) := if_pos hfit
  have e2 : pe x = 0 := if_pos (by omega)
  have e3 : pl x = insts (genP x) := if_pos (by omega)
  have e4 : pe y = 0 := if_pos (by omega)
  have e5 : pl y = insts (genP y) := if_pos (by omega)
  rw [e0, e1, e2, e3, e4, e5]
  obtain ⟨n, hn⟩ : ∃ n, n = (genSs 0 x).length := ⟨_, rfl⟩
  rw [← hn] at hparts hlx hlb
  (refine it_c rfl rfl (fun h => ?_) (fun h => ?_) <;> simp only [Cmp, Decidable.not_not, Int.not_lt, Int.not_le] at h <;> try (exfalso; first | exact h trivial | omega)); (refine it_c rfl rfl (fun h => ?_) (fun h => ?_) <;> simp only [Cmp, Decidable.not_not, Int.not_lt, Int.not_le] at h <;> try (exfalso; first | exact h trivial | omega)); (refine it_c rfl rfl (fun h => ?_) (fun h => ?_) <;> simp only [Cmp, Decidable.not_not, Int.not_lt, Int.not_le] at h <;> try (exfalso; first | exact h trivial | omega))
  refine VOK_lt (run_len30 _) rfl (VOK_lt (run_len30 _) rfl (VOK_lt (run_len30 _) rfl (VOK_lt (add_c (by omega) (by omega)) rfl (VOK_lt (sub_c (z := ((genP b).length : Int)) (by omega) (by omega) (by omega)) rfl ?_))))
  (refine it_c rfl rfl (fun h => ?_) (fun h => ?_) <;> simp only [Cmp, Decidable.not_not, Int.not_lt, Int.not_le] at h <;> try (exfalso; first | exact h trivial | omega))
  refine VOK_lt (run_len30 _) rfl (VOK_lt (sub_c (z := (n : Int)) (by omega) (by omega) (by omega)) rfl ?_)
  refine VOK_loop (ι := Nat) (fun i => [.int .i64 (i : Int)]) (fun i => i ≤ (genP b).length) (fun i => (genP b).length - i) 0 (Nat.zero_le _) rfl (fun i _ => rfl) (fun i j _ _ h => by simp at h; omega) (fun i hi => ?_)
  refine VOK_lt (run_len30 _) rfl ?_
  (refine it_c rfl rfl (fun h => ?_) (fun h => ?_) <;> simp only [Cmp, Decidable.not_not, Int.not_lt, Int.not_le] at h <;> try (exfalso; first | exact h trivial | omega))
  ·have hi : i < (genP b).length := by omega
   have hgb := genP_gok hT
   (refine it_c rfl rfl (fun h => ?_) (fun h => ?_) <;> simp only [Cmp, Decidable.not_not, Int.not_lt, Int.not_le] at h <;> try (exfalso; first | exact h trivial | omega))
   ·have hix : i < (genP x).length := by omega
    refine VOK_lt (run_ia30 (genP x) hix) (encL_ok okG _) (VOK_ltN (run_ld47 _ hix) rfl rfl (VOK_lt (run_ia30 (genP b) hi) (encL_ok okG _) (VOK_ltN (run_ld47 _ hi) rfl rfl ?_)))
    have hin : i < (genSs 0 x).length := by omega
    have e : (genP b)[i] = (genP x)[i] := by
     simp only [hparts, hgx, List.getElem_append_left hin]
    (
     refine VOK_call (p14 e (hgb _ (List.getElem_mem hi)).1) rfl rfl (VOK_lt (run_not ..) rfl (VOK_ite rfl (fun h => by cases h) (fun _ => ?_)))
     exact VOK_lt (add_c (by omega) (by omega)) rfl (VOK_again rfl ⟨i + 1, hi, rfl, by omega⟩))
   ·obtain ⟨j, rfl⟩ : ∃ j, i = n + j := ⟨i - n, by omega⟩
    have hj : j < (genP y).length := by omega
    have e : (genP b)[n + j] = sh n (genP y)[j] := by
     have h1 : (genSs 0 x).length ≤ n + j := by omega
     simp only [hparts, List.getElem_append_right h1, List.getElem_map]
     congr 2
     omega
    have hgy := genP_gok hTy _ (List.getElem_mem hj)
    have hF : Flt4 (genP b)[n + j].vf := (hgb _ (List.getElem_mem hi)).1
    refine VOK_lt (sub_c (z := (j : Int)) (by omega) (by omega) (by omega)) rfl (VOK_lt (run_ia30 (genP y) hj) (encL_ok okG _) (VOK_ltN (run_ld47 _ hj) rfl rfl ?_))
    (refine it_c rfl rfl (fun h => ?_) (fun h => ?_) <;> simp only [Cmp, Decidable.not_not, Int.not_lt, Int.not_le] at h <;> try (exfalso; first | exact h trivial | omega))
    ·have := hgy.2 (.inl h)
     refine VOK_lt (add_c (by omega) (by omega)) rfl (VOK_lt (run_ia30 (genP b) hi) (encL_ok okG _) (VOK_ltN (run_ld47 _ hi) rfl rfl ?_))
     have e' : (genP b)[n + j] = { (genP y)[j] with ad := (genP y)[j].ad + n } := by rw [e]; exact if_pos (.inl h)
     refine VOK_call (p14 e' hF) rfl rfl (VOK_lt (run_not ..) rfl (VOK_ite rfl (fun h => by cases h) (fun _ => ?_)))
     exact VOK_lt (add_c (by omega) (by omega)) rfl (VOK_again rfl ⟨n + j + 1, hi, rfl, by omega⟩)
    (refine it_c rfl rfl (fun h => ?_) (fun h => ?_) <;> simp only [Cmp, Decidable.not_not, Int.not_lt, Int.not_le] at h <;> try (exfalso; first | exact h trivial | omega))
    ·have := hgy.2 (.inr h)
     refine VOK_lt (add_c (by omega) (by omega)) rfl (VOK_lt (run_ia30 (genP b) hi) (encL_ok okG _) (VOK_ltN (run_ld47 _ hi) rfl rfl ?_))
     have e' : (genP b)[n + j] = { (genP y)[j] with ad := (genP y)[j].ad + n } := by rw [e]; exact if_pos (.inr h)
     refine VOK_call (p14 e' hF) rfl rfl (VOK_lt (run_not ..) rfl (VOK_ite rfl (fun h => by cases h) (fun _ => ?_)))
     exact VOK_lt (add_c (by omega) (by omega)) rfl (VOK_again rfl ⟨n + j + 1, hi, rfl, by omega⟩)
    ·refine VOK_lt (run_ia30 (genP b) hi) (encL_ok okG _) (VOK_ltN (run_ld47 _ hi) rfl rfl ?_)
     have e' : (genP b)[n + j] = (genP y)[j] := by rw [e]; exact if_neg (by rintro (h1 | h1) <;> contradiction)
     refine VOK_call (p14 e' hF) rfl rfl (VOK_lt (run_not ..) rfl (VOK_ite rfl (fun h => by cases h) (fun _ => ?_)))
     exact VOK_lt (add_c (by omega) (by omega)) rfl (VOK_again rfl ⟨n + j + 1, hi, rfl, by omega⟩)
  ·exact VOK_done rfl
 ·have e0 : pe b = 12 := if_neg hfit
  rw [e0]
  (refine it_c rfl rfl (fun h => ?_) (fun h => ?_) <;> simp only [Cmp, Decidable.not_not, Int.not_lt, Int.not_le] at h <;> try (exfalso; first | exact h trivial | omega))
  exact VOK_lt (run_eql ..) rfl (VOK_done rfl)
end Go.Proofs.Ytjconanknjgpnaa.vars
