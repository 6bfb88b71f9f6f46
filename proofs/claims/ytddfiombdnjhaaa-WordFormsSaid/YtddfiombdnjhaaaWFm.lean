/-
  Calls of plain values, run: what each gives.
-/
import Derived.Test.YtddfiombdnjhaaaRows
import Derived.Test.YtddfiombdnjhaaaSyE
import Derived.KernelRfl
set_option maxRecDepth 100000
namespace Go.Proofs.Ytddfiombdnjhaaa.WF
open Go.Sx
theorem mo : Try.prog.follows .mixedOrders = true := by kernel_rfl
abbrev G (l : List (FuncId × List AV × AV)) : Gl := glTI 1 l
theorem o0 : @OvOk (G []) Try.prog := ov_nilI 1 Try.prog
theorem fx1 : Try.prog.funcs[36]? = some Try.f36 := Try.func36
theorem fx2 : (Try.f36.name == "runtime.NumGoroutine") = false := by kernel_rfl
theorem fx3 : Try.f36.body.isNone = true := by kernel_rfl
theorem fx4 : Extern.findNext Try.f36 = none := by kernel_rfl
theorem fx5 : Extern.find Try.f36 = some Extern.BytealgIndex.index := by kernel_rfl
theorem fx6 : Try.prog.globals.findIdx? (·.name == (entryReads.headD ("", "")).2) = some 1 := by kernel_rfl
def a0 : List AV := [.str [58, 61, 32, 60, 62, 32, 60, 61, 32, 62, 61], .str [58, 61]]
def v0 : AV := .int .i64 0
theorem e0 : @memoI (G []) Try.prog 300 2 36 34 a0 v0 = true := by kernel_rfl
def l1 : List (FuncId × List AV × AV) := (34, a0, v0) :: []
theorem o1 : @OvOk (G l1) Try.prog := ov_consI o0 (memoI_ok mo o0 fx1 fx2 fx3 fx4 fx5 fx6 (by kernel_rfl) e0)
def a1 : List AV := [.str [58, 61, 32, 60, 62, 32, 60, 61, 32, 62, 61], .str [46, 53]]
def v1 : AV := .int .i64 (-1)
theorem e1 : @memoI (G l1) Try.prog 300 2 36 34 a1 v1 = true := by kernel_rfl
def l2 : List (FuncId × List AV × AV) := (34, a1, v1) :: l1
theorem o2 : @OvOk (G l2) Try.prog := ov_consI o1 (memoI_ok mo o1 fx1 fx2 fx3 fx4 fx5 fx6 (by kernel_rfl) e1)
def a2 : List AV := [.str [58, 61, 32, 60, 62, 32, 60, 61, 32, 62, 61], .str [60, 62]]
def v2 : AV := .int .i64 3
theorem e2 : @memoI (G l2) Try.prog 300 2 36 34 a2 v2 = true := by kernel_rfl
def l3 : List (FuncId × List AV × AV) := (34, a2, v2) :: l2
theorem o3 : @OvOk (G l3) Try.prog := ov_consI o2 (memoI_ok mo o2 fx1 fx2 fx3 fx4 fx5 fx6 (by kernel_rfl) e2)
def a3 : List AV := [.str [58, 61, 32, 60, 62, 32, 60, 61, 32, 62, 61], .str [60, 61]]
def v3 : AV := .int .i64 6
theorem e3 : @memoI (G l3) Try.prog 300 2 36 34 a3 v3 = true := by kernel_rfl
def l4 : List (FuncId × List AV × AV) := (34, a3, v3) :: l3
theorem o4 : @OvOk (G l4) Try.prog := ov_consI o3 (memoI_ok mo o3 fx1 fx2 fx3 fx4 fx5 fx6 (by kernel_rfl) e3)
def a4 : List AV := [.str [58, 61, 32, 60, 62, 32, 60, 61, 32, 62, 61], .str [46, 98]]
def v4 : AV := .int .i64 (-1)
theorem e4 : @memoI (G l4) Try.prog 300 2 36 34 a4 v4 = true := by kernel_rfl
def l5 : List (FuncId × List AV × AV) := (34, a4, v4) :: l4
theorem o5 : @OvOk (G l5) Try.prog := ov_consI o4 (memoI_ok mo o4 fx1 fx2 fx3 fx4 fx5 fx6 (by kernel_rfl) e4)
def a5 : List AV := [.str [58, 61, 32, 60, 62, 32, 60, 61, 32, 62, 61], .str [95, 98]]
def v5 : AV := .int .i64 (-1)
theorem e5 : @memoI (G l5) Try.prog 300 2 36 34 a5 v5 = true := by kernel_rfl
def l6 : List (FuncId × List AV × AV) := (34, a5, v5) :: l5
theorem o6 : @OvOk (G l6) Try.prog := ov_consI o5 (memoI_ok mo o5 fx1 fx2 fx3 fx4 fx5 fx6 (by kernel_rfl) e5)
def a6 : List AV := [.str [97, 49, 58, 61, 49, 46, 53, 59, 32, 47, 47, 32, 110, 111]]
def v6 : AV := .tup [.agg [.int .i64 1, .str [97, 49], .int .i64 0, .flt .f64 0, .int .i64 0], .int .i64 2, .bool true]
theorem e6 : @memo (G l6) Try.prog 3000 13 a6 v6 = true := by kernel_rfl
def l7 : List (FuncId × List AV × AV) := (13, a6, v6) :: l6
theorem o7 : @OvOk (G l7) Try.prog := ov_consI o6 (@memo_ok (G l6) Try.prog mo o6 3000 13 a6 v6 e6)
def a7 : List AV := [.str [58, 61, 49, 46, 53, 59, 32, 47, 47, 32, 110, 111]]
def v7 : AV := .tup [.agg [.int .i64 5, .str [58, 61], .int .i64 0, .flt .f64 0, .int .i64 0], .int .i64 2, .bool true]
theorem e7 : @memo (G l7) Try.prog 3000 13 a7 v7 = true := by kernel_rfl
def l8 : List (FuncId × List AV × AV) := (13, a7, v7) :: l7
theorem o8 : @OvOk (G l8) Try.prog := ov_consI o7 (@memo_ok (G l7) Try.prog mo o7 3000 13 a7 v7 e7)
def a8 : List AV := [.str [49, 46, 53, 59, 32, 47, 47, 32, 110, 111]]
def v8 : AV := .tup [.agg [.int .i64 3, .str [], .int .i64 0, .flt .f64 4609434218613702656, .int .i64 0], .int .i64 3, .bool true]
theorem e8 : @memo (G l8) Try.prog 3000 13 a8 v8 = true := by kernel_rfl
def l9 : List (FuncId × List AV × AV) := (13, a8, v8) :: l8
theorem o9 : @OvOk (G l9) Try.prog := ov_consI o8 (@memo_ok (G l8) Try.prog mo o8 3000 13 a8 v8 e8)
def a9 : List AV := [.str [59, 32, 47, 47, 32, 110, 111]]
def v9 : AV := .tup [.agg [.int .i64 5, .str [59], .int .i64 0, .flt .f64 0, .int .i64 0], .int .i64 1, .bool true]
theorem e9 : @memo (G l9) Try.prog 3000 13 a9 v9 = true := by kernel_rfl
def l10 : List (FuncId × List AV × AV) := (13, a9, v9) :: l9
theorem o10 : @OvOk (G l10) Try.prog := ov_consI o9 (@memo_ok (G l9) Try.prog mo o9 3000 13 a9 v9 e9)
def a10 : List AV := [.str [97, 49, 58, 61, 49, 46, 53, 59, 32, 47, 47, 32, 110, 111]]
def v10 : AV := .tup [.vsl 4 5 [.int .i64 1, .str [97, 49], .int .i64 0, .flt .f64 0, .int .i64 0, .int .i64 5, .str [58, 61], .int .i64 0, .flt .f64 0, .int .i64 2, .int .i64 3, .str [], .int .i64 0, .flt .f64 4609434218613702656, .int .i64 4, .int .i64 5, .str [59], .int .i64 0, .flt .f64 0, .int .i64 7], .int .i64 0, .bool true]
theorem e10 : @memo (G l10) Try.prog 3000 8 a10 v10 = true := by kernel_rfl
def l11 : List (FuncId × List AV × AV) := (8, a10, v10) :: l10
theorem o11 : @OvOk (G l11) Try.prog := ov_consI o10 (@memo_ok (G l10) Try.prog mo o10 3000 8 a10 v10 e10)
def a11 : List AV := [.str [97, 32, 63]]
def v11 : AV := .tup [.agg [.int .i64 1, .str [97], .int .i64 0, .flt .f64 0, .int .i64 0], .int .i64 1, .bool true]
theorem e11 : @memo (G l11) Try.prog 3000 13 a11 v11 = true := by kernel_rfl
def l12 : List (FuncId × List AV × AV) := (13, a11, v11) :: l11
theorem o12 : @OvOk (G l12) Try.prog := ov_consI o11 (@memo_ok (G l11) Try.prog mo o11 3000 13 a11 v11 e11)
def a12 : List AV := [.str [63]]
def v12 : AV := .tup [.agg [.int .i64 5, .str [], .int .i64 0, .flt .f64 0, .int .i64 0], .int .i64 0, .bool false]
theorem e12 : @memo (G l12) Try.prog 3000 13 a12 v12 = true := by kernel_rfl
def l13 : List (FuncId × List AV × AV) := (13, a12, v12) :: l12
theorem o13 : @OvOk (G l13) Try.prog := ov_consI o12 (@memo_ok (G l12) Try.prog mo o12 3000 13 a12 v12 e12)
def a13 : List AV := [.str [97, 32, 63]]
def v13 : AV := .tup [.nsl, .int .i64 2, .bool false]
theorem e13 : @memo (G l13) Try.prog 3000 8 a13 v13 = true := by kernel_rfl
def l14 : List (FuncId × List AV × AV) := (8, a13, v13) :: l13
theorem o14 : @OvOk (G l14) Try.prog := ov_consI o13 (@memo_ok (G l13) Try.prog mo o13 3000 8 a13 v13 e13)
def a14 : List AV := []
def v14 : AV := .bool true
theorem e14 : @memo (G l14) Try.prog 3000 7 a14 v14 = true := by kernel_rfl
def l15 : List (FuncId × List AV × AV) := (7, a14, v14) :: l14
theorem o15 : @OvOk (G l15) Try.prog := ov_consI o14 (@memo_ok (G l14) Try.prog mo o14 3000 7 a14 v14 e14)
def a15 : List AV := [.str [49, 46, 53]]
def v15 : AV := .tup [.agg [.int .i64 3, .str [], .int .i64 0, .flt .f64 4609434218613702656, .int .i64 0], .int .i64 3, .bool true]
theorem e15 : @memo (G l15) Try.prog 3000 13 a15 v15 = true := by kernel_rfl
def l16 : List (FuncId × List AV × AV) := (13, a15, v15) :: l15
theorem o16 : @OvOk (G l16) Try.prog := ov_consI o15 (@memo_ok (G l15) Try.prog mo o15 3000 13 a15 v15 e15)
def a16 : List AV := [.str [49, 46, 53]]
def v16 : AV := .tup [.vsl 1 5 [.int .i64 3, .str [], .int .i64 0, .flt .f64 4609434218613702656, .int .i64 0], .int .i64 0, .bool true]
theorem e16 : @memo (G l16) Try.prog 3000 8 a16 v16 = true := by kernel_rfl
def l17 : List (FuncId × List AV × AV) := (8, a16, v16) :: l16
theorem o17 : @OvOk (G l17) Try.prog := ov_consI o16 (@memo_ok (G l16) Try.prog mo o16 3000 8 a16 v16 e16)
def a17 : List AV := [.str [49, 46]]
def v17 : AV := .tup [.agg [.int .i64 2, .str [], .int .i64 1, .flt .f64 0, .int .i64 0], .int .i64 1, .bool true]
theorem e17 : @memo (G l17) Try.prog 3000 13 a17 v17 = true := by kernel_rfl
def l18 : List (FuncId × List AV × AV) := (13, a17, v17) :: l17
theorem o18 : @OvOk (G l18) Try.prog := ov_consI o17 (@memo_ok (G l17) Try.prog mo o17 3000 13 a17 v17 e17)
def a18 : List AV := [.str [46]]
def v18 : AV := .tup [.agg [.int .i64 5, .str [46], .int .i64 0, .flt .f64 0, .int .i64 0], .int .i64 1, .bool true]
theorem e18 : @memo (G l18) Try.prog 3000 13 a18 v18 = true := by kernel_rfl
def l19 : List (FuncId × List AV × AV) := (13, a18, v18) :: l18
theorem o19 : @OvOk (G l19) Try.prog := ov_consI o18 (@memo_ok (G l18) Try.prog mo o18 3000 13 a18 v18 e18)
def a19 : List AV := [.str [49, 46]]
def v19 : AV := .tup [.vsl 2 5 [.int .i64 2, .str [], .int .i64 1, .flt .f64 0, .int .i64 0, .int .i64 5, .str [46], .int .i64 0, .flt .f64 0, .int .i64 1], .int .i64 0, .bool true]
theorem e19 : @memo (G l19) Try.prog 3000 8 a19 v19 = true := by kernel_rfl
def l20 : List (FuncId × List AV × AV) := (8, a19, v19) :: l19
theorem o20 : @OvOk (G l20) Try.prog := ov_consI o19 (@memo_ok (G l19) Try.prog mo o19 3000 8 a19 v19 e19)
def a20 : List AV := [.str [49, 32, 46, 53]]
def v20 : AV := .tup [.agg [.int .i64 2, .str [], .int .i64 1, .flt .f64 0, .int .i64 0], .int .i64 1, .bool true]
theorem e20 : @memo (G l20) Try.prog 3000 13 a20 v20 = true := by kernel_rfl
def l21 : List (FuncId × List AV × AV) := (13, a20, v20) :: l20
theorem o21 : @OvOk (G l21) Try.prog := ov_consI o20 (@memo_ok (G l20) Try.prog mo o20 3000 13 a20 v20 e20)
def a21 : List AV := [.str [46, 53]]
def v21 : AV := .tup [.agg [.int .i64 5, .str [46], .int .i64 0, .flt .f64 0, .int .i64 0], .int .i64 1, .bool true]
theorem e21 : @memo (G l21) Try.prog 3000 13 a21 v21 = true := by kernel_rfl
def l22 : List (FuncId × List AV × AV) := (13, a21, v21) :: l21
theorem o22 : @OvOk (G l22) Try.prog := ov_consI o21 (@memo_ok (G l21) Try.prog mo o21 3000 13 a21 v21 e21)
def a22 : List AV := [.str [53]]
def v22 : AV := .tup [.agg [.int .i64 2, .str [], .int .i64 5, .flt .f64 0, .int .i64 0], .int .i64 1, .bool true]
theorem e22 : @memo (G l22) Try.prog 3000 13 a22 v22 = true := by kernel_rfl
def l23 : List (FuncId × List AV × AV) := (13, a22, v22) :: l22
theorem o23 : @OvOk (G l23) Try.prog := ov_consI o22 (@memo_ok (G l22) Try.prog mo o22 3000 13 a22 v22 e22)
def a23 : List AV := [.str [49, 32, 46, 53]]
def v23 : AV := .tup [.vsl 3 5 [.int .i64 2, .str [], .int .i64 1, .flt .f64 0, .int .i64 0, .int .i64 5, .str [46], .int .i64 0, .flt .f64 0, .int .i64 2, .int .i64 2, .str [], .int .i64 5, .flt .f64 0, .int .i64 3], .int .i64 0, .bool true]
theorem e23 : @memo (G l23) Try.prog 3000 8 a23 v23 = true := by kernel_rfl
def l24 : List (FuncId × List AV × AV) := (8, a23, v23) :: l23
theorem o24 : @OvOk (G l24) Try.prog := ov_consI o23 (@memo_ok (G l23) Try.prog mo o23 3000 8 a23 v23 e23)
def a24 : List AV := [.str [53, 109, 115]]
def v24 : AV := .tup [.agg [.int .i64 4, .str [], .int .i64 5, .flt .f64 0, .int .i64 0], .int .i64 3, .bool true]
theorem e24 : @memo (G l24) Try.prog 3000 13 a24 v24 = true := by kernel_rfl
def l25 : List (FuncId × List AV × AV) := (13, a24, v24) :: l24
theorem o25 : @OvOk (G l25) Try.prog := ov_consI o24 (@memo_ok (G l24) Try.prog mo o24 3000 13 a24 v24 e24)
def a25 : List AV := [.str [53, 109, 115]]
def v25 : AV := .tup [.vsl 1 5 [.int .i64 4, .str [], .int .i64 5, .flt .f64 0, .int .i64 0], .int .i64 0, .bool true]
theorem e25 : @memo (G l25) Try.prog 3000 8 a25 v25 = true := by kernel_rfl
def l26 : List (FuncId × List AV × AV) := (8, a25, v25) :: l25
theorem o26 : @OvOk (G l26) Try.prog := ov_consI o25 (@memo_ok (G l25) Try.prog mo o25 3000 8 a25 v25 e25)
def a26 : List AV := [.str [53, 109, 115, 120]]
def v26 : AV := .tup [.agg [.int .i64 2, .str [], .int .i64 5, .flt .f64 0, .int .i64 0], .int .i64 1, .bool true]
theorem e26 : @memo (G l26) Try.prog 3000 13 a26 v26 = true := by kernel_rfl
def l27 : List (FuncId × List AV × AV) := (13, a26, v26) :: l26
theorem o27 : @OvOk (G l27) Try.prog := ov_consI o26 (@memo_ok (G l26) Try.prog mo o26 3000 13 a26 v26 e26)
def a27 : List AV := [.str [109, 115, 120]]
def v27 : AV := .tup [.agg [.int .i64 1, .str [109, 115, 120], .int .i64 0, .flt .f64 0, .int .i64 0], .int .i64 3, .bool true]
theorem e27 : @memo (G l27) Try.prog 3000 13 a27 v27 = true := by kernel_rfl
def l28 : List (FuncId × List AV × AV) := (13, a27, v27) :: l27
theorem o28 : @OvOk (G l28) Try.prog := ov_consI o27 (@memo_ok (G l27) Try.prog mo o27 3000 13 a27 v27 e27)
def a28 : List AV := [.str [53, 109, 115, 120]]
def v28 : AV := .tup [.vsl 2 5 [.int .i64 2, .str [], .int .i64 5, .flt .f64 0, .int .i64 0, .int .i64 1, .str [109, 115, 120], .int .i64 0, .flt .f64 0, .int .i64 1], .int .i64 0, .bool true]
theorem e28 : @memo (G l28) Try.prog 3000 8 a28 v28 = true := by kernel_rfl
def l29 : List (FuncId × List AV × AV) := (8, a28, v28) :: l28
theorem o29 : @OvOk (G l29) Try.prog := ov_consI o28 (@memo_ok (G l28) Try.prog mo o28 3000 8 a28 v28 e28)
def a29 : List AV := [.str [53, 32, 109, 115]]
def v29 : AV := .tup [.agg [.int .i64 2, .str [], .int .i64 5, .flt .f64 0, .int .i64 0], .int .i64 1, .bool true]
theorem e29 : @memo (G l29) Try.prog 3000 13 a29 v29 = true := by kernel_rfl
def l30 : List (FuncId × List AV × AV) := (13, a29, v29) :: l29
theorem o30 : @OvOk (G l30) Try.prog := ov_consI o29 (@memo_ok (G l29) Try.prog mo o29 3000 13 a29 v29 e29)
def a30 : List AV := [.str [109, 115]]
def v30 : AV := .tup [.agg [.int .i64 1, .str [109, 115], .int .i64 0, .flt .f64 0, .int .i64 0], .int .i64 2, .bool true]
theorem e30 : @memo (G l30) Try.prog 3000 13 a30 v30 = true := by kernel_rfl
def l31 : List (FuncId × List AV × AV) := (13, a30, v30) :: l30
theorem o31 : @OvOk (G l31) Try.prog := ov_consI o30 (@memo_ok (G l30) Try.prog mo o30 3000 13 a30 v30 e30)
def a31 : List AV := [.str [53, 32, 109, 115]]
def v31 : AV := .tup [.vsl 2 5 [.int .i64 2, .str [], .int .i64 5, .flt .f64 0, .int .i64 0, .int .i64 1, .str [109, 115], .int .i64 0, .flt .f64 0, .int .i64 2], .int .i64 0, .bool true]
theorem e31 : @memo (G l31) Try.prog 3000 8 a31 v31 = true := by kernel_rfl
def l32 : List (FuncId × List AV × AV) := (8, a31, v31) :: l31
theorem o32 : @OvOk (G l32) Try.prog := ov_consI o31 (@memo_ok (G l31) Try.prog mo o31 3000 8 a31 v31 e31)
def a32 : List AV := [.str [49, 50, 51, 52, 53, 54, 55, 56, 57, 48, 49, 50, 51, 52, 53]]
def v32 : AV := .tup [.agg [.int .i64 2, .str [], .int .i64 123456789012345, .flt .f64 0, .int .i64 0], .int .i64 15, .bool true]
theorem e32 : @memo (G l32) Try.prog 3000 13 a32 v32 = true := by kernel_rfl
def l33 : List (FuncId × List AV × AV) := (13, a32, v32) :: l32
theorem o33 : @OvOk (G l33) Try.prog := ov_consI o32 (@memo_ok (G l32) Try.prog mo o32 3000 13 a32 v32 e32)
def a33 : List AV := [.str [49, 50, 51, 52, 53, 54, 55, 56, 57, 48, 49, 50, 51, 52, 53]]
def v33 : AV := .tup [.vsl 1 5 [.int .i64 2, .str [], .int .i64 123456789012345, .flt .f64 0, .int .i64 0], .int .i64 0, .bool true]
theorem e33 : @memo (G l33) Try.prog 3000 8 a33 v33 = true := by kernel_rfl
def l34 : List (FuncId × List AV × AV) := (8, a33, v33) :: l33
theorem o34 : @OvOk (G l34) Try.prog := ov_consI o33 (@memo_ok (G l33) Try.prog mo o33 3000 8 a33 v33 e33)
def a34 : List AV := [.str [48, 46, 49]]
def v34 : AV := .tup [.agg [.int .i64 3, .str [], .int .i64 0, .flt .f64 4591870180066957722, .int .i64 0], .int .i64 3, .bool true]
theorem e34 : @memo (G l34) Try.prog 3000 13 a34 v34 = true := by kernel_rfl
def l35 : List (FuncId × List AV × AV) := (13, a34, v34) :: l34
theorem o35 : @OvOk (G l35) Try.prog := ov_consI o34 (@memo_ok (G l34) Try.prog mo o34 3000 13 a34 v34 e34)
def a35 : List AV := [.str [48, 46, 49]]
def v35 : AV := .tup [.vsl 1 5 [.int .i64 3, .str [], .int .i64 0, .flt .f64 4591870180066957722, .int .i64 0], .int .i64 0, .bool true]
theorem e35 : @memo (G l35) Try.prog 3000 8 a35 v35 = true := by kernel_rfl
def l36 : List (FuncId × List AV × AV) := (8, a35, v35) :: l35
theorem o36 : @OvOk (G l36) Try.prog := ov_consI o35 (@memo_ok (G l35) Try.prog mo o35 3000 8 a35 v35 e35)
def a36 : List AV := [.str [97, 58, 61, 98]]
def v36 : AV := .tup [.agg [.int .i64 1, .str [97], .int .i64 0, .flt .f64 0, .int .i64 0], .int .i64 1, .bool true]
theorem e36 : @memo (G l36) Try.prog 3000 13 a36 v36 = true := by kernel_rfl
def l37 : List (FuncId × List AV × AV) := (13, a36, v36) :: l36
theorem o37 : @OvOk (G l37) Try.prog := ov_consI o36 (@memo_ok (G l36) Try.prog mo o36 3000 13 a36 v36 e36)
def a37 : List AV := [.str [58, 61, 98]]
def v37 : AV := .tup [.agg [.int .i64 5, .str [58, 61], .int .i64 0, .flt .f64 0, .int .i64 0], .int .i64 2, .bool true]
theorem e37 : @memo (G l37) Try.prog 3000 13 a37 v37 = true := by kernel_rfl
def l38 : List (FuncId × List AV × AV) := (13, a37, v37) :: l37
theorem o38 : @OvOk (G l38) Try.prog := ov_consI o37 (@memo_ok (G l37) Try.prog mo o37 3000 13 a37 v37 e37)
def a38 : List AV := [.str [98]]
def v38 : AV := .tup [.agg [.int .i64 1, .str [98], .int .i64 0, .flt .f64 0, .int .i64 0], .int .i64 1, .bool true]
theorem e38 : @memo (G l38) Try.prog 3000 13 a38 v38 = true := by kernel_rfl
def l39 : List (FuncId × List AV × AV) := (13, a38, v38) :: l38
theorem o39 : @OvOk (G l39) Try.prog := ov_consI o38 (@memo_ok (G l38) Try.prog mo o38 3000 13 a38 v38 e38)
def a39 : List AV := [.str [97, 58, 61, 98]]
def v39 : AV := .tup [.vsl 3 5 [.int .i64 1, .str [97], .int .i64 0, .flt .f64 0, .int .i64 0, .int .i64 5, .str [58, 61], .int .i64 0, .flt .f64 0, .int .i64 1, .int .i64 1, .str [98], .int .i64 0, .flt .f64 0, .int .i64 3], .int .i64 0, .bool true]
theorem e39 : @memo (G l39) Try.prog 3000 8 a39 v39 = true := by kernel_rfl
def l40 : List (FuncId × List AV × AV) := (8, a39, v39) :: l39
theorem o40 : @OvOk (G l40) Try.prog := ov_consI o39 (@memo_ok (G l39) Try.prog mo o39 3000 8 a39 v39 e39)
def a40 : List AV := [.str [97, 60, 62, 98]]
def v40 : AV := .tup [.agg [.int .i64 1, .str [97], .int .i64 0, .flt .f64 0, .int .i64 0], .int .i64 1, .bool true]
theorem e40 : @memo (G l40) Try.prog 3000 13 a40 v40 = true := by kernel_rfl
def l41 : List (FuncId × List AV × AV) := (13, a40, v40) :: l40
theorem o41 : @OvOk (G l41) Try.prog := ov_consI o40 (@memo_ok (G l40) Try.prog mo o40 3000 13 a40 v40 e40)
def a41 : List AV := [.str [60, 62, 98]]
def v41 : AV := .tup [.agg [.int .i64 5, .str [60, 62], .int .i64 0, .flt .f64 0, .int .i64 0], .int .i64 2, .bool true]
theorem e41 : @memo (G l41) Try.prog 3000 13 a41 v41 = true := by kernel_rfl
def l42 : List (FuncId × List AV × AV) := (13, a41, v41) :: l41
theorem o42 : @OvOk (G l42) Try.prog := ov_consI o41 (@memo_ok (G l41) Try.prog mo o41 3000 13 a41 v41 e41)
def a42 : List AV := [.str [97, 60, 62, 98]]
def v42 : AV := .tup [.vsl 3 5 [.int .i64 1, .str [97], .int .i64 0, .flt .f64 0, .int .i64 0, .int .i64 5, .str [60, 62], .int .i64 0, .flt .f64 0, .int .i64 1, .int .i64 1, .str [98], .int .i64 0, .flt .f64 0, .int .i64 3], .int .i64 0, .bool true]
theorem e42 : @memo (G l42) Try.prog 3000 8 a42 v42 = true := by kernel_rfl
def l43 : List (FuncId × List AV × AV) := (8, a42, v42) :: l42
theorem o43 : @OvOk (G l43) Try.prog := ov_consI o42 (@memo_ok (G l42) Try.prog mo o42 3000 8 a42 v42 e42)
def a43 : List AV := [.str [60, 61, 62]]
def v43 : AV := .tup [.agg [.int .i64 5, .str [60, 61], .int .i64 0, .flt .f64 0, .int .i64 0], .int .i64 2, .bool true]
theorem e43 : @memo (G l43) Try.prog 3000 13 a43 v43 = true := by kernel_rfl
def l44 : List (FuncId × List AV × AV) := (13, a43, v43) :: l43
theorem o44 : @OvOk (G l44) Try.prog := ov_consI o43 (@memo_ok (G l43) Try.prog mo o43 3000 13 a43 v43 e43)
def a44 : List AV := [.str [62]]
def v44 : AV := .tup [.agg [.int .i64 5, .str [62], .int .i64 0, .flt .f64 0, .int .i64 0], .int .i64 1, .bool true]
theorem e44 : @memo (G l44) Try.prog 3000 13 a44 v44 = true := by kernel_rfl
def l45 : List (FuncId × List AV × AV) := (13, a44, v44) :: l44
theorem o45 : @OvOk (G l45) Try.prog := ov_consI o44 (@memo_ok (G l44) Try.prog mo o44 3000 13 a44 v44 e44)
def a45 : List AV := [.str [60, 61, 62]]
def v45 : AV := .tup [.vsl 2 5 [.int .i64 5, .str [60, 61], .int .i64 0, .flt .f64 0, .int .i64 0, .int .i64 5, .str [62], .int .i64 0, .flt .f64 0, .int .i64 2], .int .i64 0, .bool true]
theorem e45 : @memo (G l45) Try.prog 3000 8 a45 v45 = true := by kernel_rfl
def l46 : List (FuncId × List AV × AV) := (8, a45, v45) :: l45
theorem o46 : @OvOk (G l46) Try.prog := ov_consI o45 (@memo_ok (G l45) Try.prog mo o45 3000 8 a45 v45 e45)
def a46 : List AV := [.str [97, 46, 98]]
def v46 : AV := .tup [.agg [.int .i64 1, .str [97], .int .i64 0, .flt .f64 0, .int .i64 0], .int .i64 1, .bool true]
theorem e46 : @memo (G l46) Try.prog 3000 13 a46 v46 = true := by kernel_rfl
def l47 : List (FuncId × List AV × AV) := (13, a46, v46) :: l46
theorem o47 : @OvOk (G l47) Try.prog := ov_consI o46 (@memo_ok (G l46) Try.prog mo o46 3000 13 a46 v46 e46)
def a47 : List AV := [.str [46, 98]]
def v47 : AV := .tup [.agg [.int .i64 5, .str [46], .int .i64 0, .flt .f64 0, .int .i64 0], .int .i64 1, .bool true]
theorem e47 : @memo (G l47) Try.prog 3000 13 a47 v47 = true := by kernel_rfl
def l48 : List (FuncId × List AV × AV) := (13, a47, v47) :: l47
theorem o48 : @OvOk (G l48) Try.prog := ov_consI o47 (@memo_ok (G l47) Try.prog mo o47 3000 13 a47 v47 e47)
def a48 : List AV := [.str [97, 46, 98]]
def v48 : AV := .tup [.vsl 3 5 [.int .i64 1, .str [97], .int .i64 0, .flt .f64 0, .int .i64 0, .int .i64 5, .str [46], .int .i64 0, .flt .f64 0, .int .i64 1, .int .i64 1, .str [98], .int .i64 0, .flt .f64 0, .int .i64 2], .int .i64 0, .bool true]
theorem e48 : @memo (G l48) Try.prog 3000 8 a48 v48 = true := by kernel_rfl
def l49 : List (FuncId × List AV × AV) := (8, a48, v48) :: l48
theorem o49 : @OvOk (G l49) Try.prog := ov_consI o48 (@memo_ok (G l48) Try.prog mo o48 3000 8 a48 v48 e48)
def a49 : List AV := [.str [49, 46, 53, 46, 53]]
def v49 : AV := .tup [.agg [.int .i64 3, .str [], .int .i64 0, .flt .f64 4609434218613702656, .int .i64 0], .int .i64 3, .bool true]
theorem e49 : @memo (G l49) Try.prog 3000 13 a49 v49 = true := by kernel_rfl
def l50 : List (FuncId × List AV × AV) := (13, a49, v49) :: l49
theorem o50 : @OvOk (G l50) Try.prog := ov_consI o49 (@memo_ok (G l49) Try.prog mo o49 3000 13 a49 v49 e49)
def a50 : List AV := [.str [49, 46, 53, 46, 53]]
def v50 : AV := .tup [.vsl 3 5 [.int .i64 3, .str [], .int .i64 0, .flt .f64 4609434218613702656, .int .i64 0, .int .i64 5, .str [46], .int .i64 0, .flt .f64 0, .int .i64 3, .int .i64 2, .str [], .int .i64 5, .flt .f64 0, .int .i64 4], .int .i64 0, .bool true]
theorem e50 : @memo (G l50) Try.prog 3000 8 a50 v50 = true := by kernel_rfl
def l51 : List (FuncId × List AV × AV) := (8, a50, v50) :: l50
theorem o51 : @OvOk (G l51) Try.prog := ov_consI o50 (@memo_ok (G l50) Try.prog mo o50 3000 8 a50 v50 e50)
def a51 : List AV := [.str [47, 47, 32, 120]]
def v51 : AV := .tup [.nsl, .int .i64 0, .bool true]
theorem e51 : @memo (G l51) Try.prog 3000 8 a51 v51 = true := by kernel_rfl
def l52 : List (FuncId × List AV × AV) := (8, a51, v51) :: l51
theorem o52 : @OvOk (G l52) Try.prog := ov_consI o51 (@memo_ok (G l51) Try.prog mo o51 3000 8 a51 v51 e51)
def a52 : List AV := [.str [49, 50, 46, 51, 52, 53, 109, 115]]
def v52 : AV := .tup [.agg [.int .i64 3, .str [], .int .i64 0, .flt .f64 4623139235229744497, .int .i64 0], .int .i64 6, .bool true]
theorem e52 : @memo (G l52) Try.prog 3000 13 a52 v52 = true := by kernel_rfl
def l53 : List (FuncId × List AV × AV) := (13, a52, v52) :: l52
theorem o53 : @OvOk (G l53) Try.prog := ov_consI o52 (@memo_ok (G l52) Try.prog mo o52 3000 13 a52 v52 e52)
def a53 : List AV := [.str [49, 50, 46, 51, 52, 53, 109, 115]]
def v53 : AV := .tup [.vsl 2 5 [.int .i64 3, .str [], .int .i64 0, .flt .f64 4623139235229744497, .int .i64 0, .int .i64 1, .str [109, 115], .int .i64 0, .flt .f64 0, .int .i64 6], .int .i64 0, .bool true]
theorem e53 : @memo (G l53) Try.prog 3000 8 a53 v53 = true := by kernel_rfl
def l54 : List (FuncId × List AV × AV) := (8, a53, v53) :: l53
theorem o54 : @OvOk (G l54) Try.prog := ov_consI o53 (@memo_ok (G l53) Try.prog mo o53 3000 8 a53 v53 e53)
def a54 : List AV := [.str [49, 50, 51, 52, 53, 54, 55, 56, 57, 48, 49, 50, 51, 52, 53, 54]]
def v54 : AV := .tup [.agg [.int .i64 0, .str [], .int .i64 0, .flt .f64 0, .int .i64 0], .int .i64 0, .bool false]
theorem e54 : @memo (G l54) Try.prog 3000 13 a54 v54 = true := by kernel_rfl
def l55 : List (FuncId × List AV × AV) := (13, a54, v54) :: l54
theorem o55 : @OvOk (G l55) Try.prog := ov_consI o54 (@memo_ok (G l54) Try.prog mo o54 3000 13 a54 v54 e54)
def a55 : List AV := [.str [49, 50, 51, 52, 53, 54, 55, 56, 57, 48, 49, 50, 51, 52, 53, 54]]
def v55 : AV := .tup [.nsl, .int .i64 0, .bool false]
theorem e55 : @memo (G l55) Try.prog 3000 8 a55 v55 = true := by kernel_rfl
def l56 : List (FuncId × List AV × AV) := (8, a55, v55) :: l55
theorem o56 : @OvOk (G l56) Try.prog := ov_consI o55 (@memo_ok (G l55) Try.prog mo o55 3000 8 a55 v55 e55)
def a56 : List AV := [.str [97, 32, 49, 46, 50, 51, 52, 53, 54, 55, 56, 57, 48, 49, 50, 51, 52, 53, 54]]
def v56 : AV := .tup [.agg [.int .i64 1, .str [97], .int .i64 0, .flt .f64 0, .int .i64 0], .int .i64 1, .bool true]
theorem e56 : @memo (G l56) Try.prog 3000 13 a56 v56 = true := by kernel_rfl
def l57 : List (FuncId × List AV × AV) := (13, a56, v56) :: l56
theorem o57 : @OvOk (G l57) Try.prog := ov_consI o56 (@memo_ok (G l56) Try.prog mo o56 3000 13 a56 v56 e56)
def a57 : List AV := [.str [49, 46, 50, 51, 52, 53, 54, 55, 56, 57, 48, 49, 50, 51, 52, 53, 54]]
def v57 : AV := .tup [.agg [.int .i64 0, .str [], .int .i64 0, .flt .f64 0, .int .i64 0], .int .i64 0, .bool false]
theorem e57 : @memo (G l57) Try.prog 3000 13 a57 v57 = true := by kernel_rfl
def l58 : List (FuncId × List AV × AV) := (13, a57, v57) :: l57
theorem o58 : @OvOk (G l58) Try.prog := ov_consI o57 (@memo_ok (G l57) Try.prog mo o57 3000 13 a57 v57 e57)
def a58 : List AV := [.str [97, 32, 49, 46, 50, 51, 52, 53, 54, 55, 56, 57, 48, 49, 50, 51, 52, 53, 54]]
def v58 : AV := .tup [.nsl, .int .i64 2, .bool false]
theorem e58 : @memo (G l58) Try.prog 3000 8 a58 v58 = true := by kernel_rfl
def l59 : List (FuncId × List AV × AV) := (8, a58, v58) :: l58
theorem o59 : @OvOk (G l59) Try.prog := ov_consI o58 (@memo_ok (G l58) Try.prog mo o58 3000 8 a58 v58 e58)
def a59 : List AV := [.str [63]]
def v59 : AV := .tup [.nsl, .int .i64 0, .bool false]
theorem e59 : @memo (G l59) Try.prog 3000 8 a59 v59 = true := by kernel_rfl
def l60 : List (FuncId × List AV × AV) := (8, a59, v59) :: l59
theorem o60 : @OvOk (G l60) Try.prog := ov_consI o59 (@memo_ok (G l59) Try.prog mo o59 3000 8 a59 v59 e59)
def a60 : List AV := [.str [97, 95, 98]]
def v60 : AV := .tup [.agg [.int .i64 1, .str [97], .int .i64 0, .flt .f64 0, .int .i64 0], .int .i64 1, .bool true]
theorem e60 : @memo (G l60) Try.prog 3000 13 a60 v60 = true := by kernel_rfl
def l61 : List (FuncId × List AV × AV) := (13, a60, v60) :: l60
theorem o61 : @OvOk (G l61) Try.prog := ov_consI o60 (@memo_ok (G l60) Try.prog mo o60 3000 13 a60 v60 e60)
def a61 : List AV := [.str [95, 98]]
def v61 : AV := .tup [.agg [.int .i64 5, .str [], .int .i64 0, .flt .f64 0, .int .i64 0], .int .i64 0, .bool false]
theorem e61 : @memo (G l61) Try.prog 3000 13 a61 v61 = true := by kernel_rfl
def l62 : List (FuncId × List AV × AV) := (13, a61, v61) :: l61
theorem o62 : @OvOk (G l62) Try.prog := ov_consI o61 (@memo_ok (G l61) Try.prog mo o61 3000 13 a61 v61 e61)
def a62 : List AV := [.str [97, 95, 98]]
def v62 : AV := .tup [.nsl, .int .i64 1, .bool false]
theorem e62 : @memo (G l62) Try.prog 3000 8 a62 v62 = true := by kernel_rfl
def l63 : List (FuncId × List AV × AV) := (8, a62, v62) :: l62
theorem o63 : @OvOk (G l63) Try.prog := ov_consI o62 (@memo_ok (G l62) Try.prog mo o62 3000 8 a62 v62 e62)
def a63 : List AV := [.str [66]]
def v63 : AV := .tup [.agg [.int .i64 5, .str [], .int .i64 0, .flt .f64 0, .int .i64 0], .int .i64 0, .bool false]
theorem e63 : @memo (G l63) Try.prog 3000 13 a63 v63 = true := by kernel_rfl
def l64 : List (FuncId × List AV × AV) := (13, a63, v63) :: l63
theorem o64 : @OvOk (G l64) Try.prog := ov_consI o63 (@memo_ok (G l63) Try.prog mo o63 3000 13 a63 v63 e63)
def a64 : List AV := [.str [66]]
def v64 : AV := .tup [.nsl, .int .i64 0, .bool false]
theorem e64 : @memo (G l64) Try.prog 3000 8 a64 v64 = true := by kernel_rfl
def l65 : List (FuncId × List AV × AV) := (8, a64, v64) :: l64
theorem o65 : @OvOk (G l65) Try.prog := ov_consI o64 (@memo_ok (G l64) Try.prog mo o64 3000 8 a64 v64 e64)
def a65 : List AV := [.str [55, 109, 115]]
def v65 : AV := .tup [.agg [.int .i64 4, .str [], .int .i64 7, .flt .f64 0, .int .i64 0], .int .i64 3, .bool true]
theorem e65 : @memo (G l65) Try.prog 3000 13 a65 v65 = true := by kernel_rfl
def l66 : List (FuncId × List AV × AV) := (13, a65, v65) :: l65
theorem o66 : @OvOk (G l66) Try.prog := ov_consI o65 (@memo_ok (G l65) Try.prog mo o65 3000 13 a65 v65 e65)
def a66 : List AV := [.str [55, 109, 115]]
def v66 : AV := .tup [.vsl 1 5 [.int .i64 4, .str [], .int .i64 7, .flt .f64 0, .int .i64 0], .int .i64 0, .bool true]
theorem e66 : @memo (G l66) Try.prog 3000 8 a66 v66 = true := by kernel_rfl
def l67 : List (FuncId × List AV × AV) := (8, a66, v66) :: l66
theorem o67 : @OvOk (G l67) Try.prog := ov_consI o66 (@memo_ok (G l66) Try.prog mo o66 3000 8 a66 v66 e66)
def a67 : List AV := [.str [0, 0, 0, 0, 0, 0, 0, 0, 0, 0, 0, 0, 0, 0, 0, 0, 0, 0, 0, 0, 0, 0, 0, 0, 0, 0, 0, 0, 0, 0, 0, 0, 0, 0, 0, 0, 0, 0, 0, 0, 0, 0, 0, 0, 0, 0, 0, 0, 0, 0, 0, 0, 0, 0, 0, 0, 0, 0, 0, 0, 0, 0, 0, 0, 0, 0, 0, 0, 0, 0, 0, 0, 0, 0, 0, 0, 0, 0, 0, 0, 0, 0, 0, 0, 0, 0, 0, 0, 0, 0, 0, 0, 0, 0, 0, 0, 0, 0, 0, 0, 0, 0, 0, 0, 0, 0, 0, 0, 0, 0, 0, 0, 0, 0, 0, 0, 0, 0, 0, 0, 0, 0, 0, 0, 0, 0, 0, 0, 0, 0, 0, 0, 0, 0, 0, 0, 0, 0, 0, 0, 0, 0, 0, 0, 0, 0, 0, 0, 0, 0, 0, 0, 0, 0, 0, 0, 0, 0, 0, 0, 0, 0, 0, 0, 0, 0, 0, 0, 0, 0, 0, 0, 0, 0, 0, 0, 0, 0, 0, 0, 0, 0, 0, 0, 0, 0, 0, 0, 0, 0, 0, 0, 0, 0, 0, 0, 0, 0, 0, 0, 0, 0, 0, 0, 0, 0, 0, 0, 0, 0, 0, 0, 0, 0, 0, 0, 0, 0, 0, 0, 0, 0, 0, 0, 0, 0, 0, 0, 0, 0, 0, 0, 0, 0, 0, 0, 0, 0, 0, 0, 0, 0, 0, 0, 0, 0, 0, 0, 0, 0, 0, 0, 0, 0, 0, 0, 0, 0, 0, 0, 0, 0, 0, 0, 0, 0, 0, 0, 0, 0, 0, 0, 0, 0, 0, 0, 0, 0, 0, 0, 0, 0, 0, 0, 0, 0, 0, 0, 0, 0, 0, 0, 0, 0, 0, 0, 0, 0, 0, 0, 0, 0, 0, 0, 0, 0, 0, 0, 0, 0, 0, 0, 0, 0, 0, 0, 0, 0, 0, 0, 0, 0, 0, 0, 0, 0, 0, 0, 0, 0, 0, 0, 0, 0, 0, 0, 0, 0, 0, 0, 0, 0, 0, 0, 0, 0, 0, 0, 0, 0, 0, 0, 0, 0, 0, 0, 0, 0, 0, 0, 0, 0, 0, 0, 0, 0, 0, 0, 0, 0, 0, 0, 0, 0, 0, 0, 0, 0, 0, 0, 0, 0, 0, 0, 0, 0, 0, 0, 0, 0, 0, 0, 0, 0, 0, 0, 0, 0, 0, 0, 0, 0, 0, 0, 0, 0, 0, 0, 0, 0, 0, 0, 0, 0, 0, 0, 0, 0, 0, 0, 0, 0, 0, 0, 0, 0, 0, 0, 0, 0, 0, 0, 0, 0, 0, 0, 0, 0, 0, 0, 0, 0, 0, 0, 0, 0, 0, 0, 0, 0, 0, 0, 0, 0, 0, 0, 0, 0, 0, 0, 0, 0, 0, 0, 0, 0, 0, 0, 0, 0, 0, 0, 0, 0, 0, 0, 0, 0, 0, 0, 0, 0, 0, 0, 0, 0, 0, 0, 0, 0, 0, 0, 0, 0, 0, 0, 0, 0, 0, 0, 0, 0, 0, 0, 0, 0, 0, 0, 0, 0, 0, 0, 0, 0, 0, 0, 0, 0, 0, 0, 0, 0, 0, 0, 0, 0, 0, 0, 0, 0, 0, 0, 0, 0, 0, 0, 0, 0, 0, 0, 0, 0, 0, 0, 0, 0, 0, 0, 0, 0, 0, 0, 0, 0, 0, 0, 0, 0, 0, 0, 0, 0, 0, 0, 0, 0, 0, 0, 0, 0, 0, 0, 0, 0, 0, 0, 0, 0, 0, 0, 0, 0, 0, 0, 0, 0, 0, 0, 0, 0, 0, 0, 0, 0, 0, 0, 0, 0, 0, 0, 0, 0, 0, 0, 0, 0, 0, 0, 0, 0, 0, 0, 0, 0, 0, 0, 0, 0, 0, 0, 0, 0, 0, 0, 0, 0, 0, 0, 0, 0, 0, 0, 0, 0, 0, 0, 0, 0, 0, 0, 0, 0, 0, 0, 0, 0, 0, 0, 0, 0, 0, 0, 0, 0, 0, 0, 0, 0, 0, 0, 0, 0, 0, 0, 0, 0, 0, 0, 0, 0, 0, 0, 0, 0, 0, 0, 0, 0, 0, 0, 0, 0, 0, 0, 0, 0, 0, 0, 0, 0, 0, 0, 0, 0, 0, 0, 0, 0, 0, 0, 0, 0, 0, 0, 0, 0, 0, 0, 0, 0, 0, 0, 0, 0, 0, 0, 0, 0, 0, 0, 0, 0, 0, 0, 0, 0, 0, 0, 0, 0, 0, 0, 0, 0, 0, 0, 0, 0, 0, 0, 0, 0, 0, 0, 0, 0, 0, 0, 0, 0, 0, 0, 0, 0, 0, 0, 0, 0, 0, 0, 0, 0, 0, 0, 0, 0, 0, 0, 0, 0, 0, 0, 0, 0, 0, 0, 0, 0, 0, 0, 0, 0, 0, 0, 0, 0, 0, 0, 0, 0, 0, 0, 0, 0, 0, 0, 0, 0, 0, 0, 0, 0, 0, 0, 0, 0, 0, 0, 0, 0, 0, 0, 0, 0, 0, 0, 0, 0, 0, 0, 0, 0, 0, 0, 0, 0, 0, 0, 0, 0, 0, 0, 0, 0, 0, 0, 0, 0, 0, 0, 0, 0, 0, 0, 0, 0, 0, 0, 0, 0, 0, 0, 0, 0, 0, 0, 0, 0, 0, 0, 0, 0, 0, 0, 0, 0, 0, 0, 0, 0, 0, 0, 0, 0, 0, 0, 0, 0, 0, 0, 0, 0, 0, 0, 0, 0, 0, 0, 0, 0, 0, 0, 0, 0, 0, 0, 0, 0, 0, 0, 0, 0, 0, 0, 0, 0, 0, 0, 0, 0, 0, 0, 0, 0, 0, 0, 0, 0, 0, 0, 0, 0, 0, 0, 0, 0, 0, 0, 0, 0, 0, 0, 0, 0, 0, 0, 0, 0, 0, 0, 0, 0, 0, 0, 0, 0, 0, 0, 0, 0, 0, 0, 0, 0, 0, 0, 0, 0, 0, 0, 0, 0, 0, 0, 0, 0, 0, 0, 0, 0, 0, 0, 0, 0, 0, 0, 0, 0, 0, 0, 0, 0, 0, 0, 0, 0, 0, 0, 0, 0, 0, 0, 0, 0, 0, 0, 0, 0, 0, 0, 0, 0, 0, 0, 0, 0, 0, 0, 0, 0, 0, 0, 0, 0, 0, 0, 0, 0, 0, 0, 0, 0, 0, 0, 0, 0, 0, 0, 0, 0, 0, 0, 0, 0, 0, 0, 0, 0, 0, 0, 0, 0, 0, 0, 0, 0, 0, 0, 0, 0, 0, 0, 0, 0, 0, 0, 0, 0, 0, 0, 0, 0, 0, 0, 0, 0, 0, 0, 0, 0, 0, 0, 0, 0, 0, 0, 0, 0, 0, 0, 0, 0, 0, 0, 0, 0, 0, 0, 0, 0, 0, 0, 0, 0, 0, 0, 0, 0, 0, 0, 0, 0, 0, 0, 0, 0, 0, 0, 0, 0, 0, 0, 0, 0, 0, 0, 0, 0, 0, 0, 0, 0, 0, 0, 0, 0, 0, 0, 0, 0, 0, 0, 0, 0, 0, 0, 0, 0, 0, 0, 0, 0, 0, 0, 0, 0, 0, 0, 0, 0, 0, 0, 0, 0, 0, 0, 0, 0, 0, 0, 0, 0, 0, 0, 0, 0, 0, 0, 0, 0, 0, 0, 0, 0, 0, 0, 0, 0, 0, 0, 0, 0, 0, 0, 0, 0, 0, 0, 0, 0, 0, 0, 0, 0, 0, 0, 0, 0, 0, 0, 0]]
def v67 : AV := .tup [.nsl, .int .i64 0, .bool false]
theorem e67 : @memo (G l67) Try.prog 3000 8 a67 v67 = true := by kernel_rfl
def l68 : List (FuncId × List AV × AV) := (8, a67, v67) :: l67
theorem o68 : @OvOk (G l68) Try.prog := ov_consI o67 (@memo_ok (G l67) Try.prog mo o67 3000 8 a67 v67 e67)
theorem run : @runTrue (G l68) Try.prog 3000 4 = true := by kernel_rfl
theorem walk (w : World) {m : Int} (hw : w.cell? ⟨1, 0, none⟩ = some (.int .i64 m)) : Calls Try.prog 4 #[] w fun e w' => e = .returned (.bool true) ∧ RowKit.Grown w w' := runI mo o68 run w hw
end Go.Proofs.Ytddfiombdnjhaaa.WF
