/-
  The cells of a program.
-/
import Derived.Test.YtbceomdmpbmnkaaF0
set_option maxRecDepth 100000
set_option linter.unusedVariables false
set_option linter.unusedSimpArgs false
namespace Go.Proofs.Ytbceomdmpbmnkaa.vars
open Go Go.Sx
def c26 : VC := ⟨⟨[], []⟩, [], hsMem, 1, true, [(40, ft40), (41, ft41)]⟩
def putM (i : Nat) (l : List AV) : List AV := l.take (3 * i) ++ ([.sym 139, .sym 140, .sym 141] ++ l.drop (3 * i + 3))
def bodyM (i : Nat) : VT :=
 .callF 40 ft40 [.sym 64, .sym 66, .int .i64 3] 130 (.cons 2 (.lt (.bin .gtr 3 false true) [.sym 133, .int .i64 0] 135 none (.ite 135
  (.callF 41 ft41 [.sym 64, .sym 134, .sym (67 + 3 * i)] 136 (.cons 4 (.again 0 (i + 1) (.sym 142 :: putM i (symsFrom 67 63))) .nil))
  (.again 0 (i + 1) (.sym 134 :: symsFrom 67 63)))) .nil)
def bsM : Nat → Nat → VTs
 | i, 0 => .cons 64 (.done (.tup (.int .i64 0 :: (symsFrom 67 63 ++ [.sym 66])))) .nil
 | i, n + 1 => .cons 64 (bodyM i) (bsM (i + 1) n)
def firstC : List AV := [.int .i64 2, .int .i64 0, .flt .f64 0, .int .i64 1, .int .i64 0, .flt .f64 0, .int .i64 2, .int .i64 0, .flt .f64 0, .int .i64 1, .int .i64 0, .flt .f64 0, .int .i64 2, .int .i64 5, .flt .f64 0, .int .i64 3, .int .i64 0, .flt .f64 0, .int .i64 5, .int .i64 0, .flt .f64 0, .int .i64 4, .int .i64 0, .flt .f64 0, .int .i64 2, .int .i64 0, .flt .f64 0, .int .i64 2, .int .i64 0, .flt .f64 0, .int .i64 2, .int .i64 0, .flt .f64 0, .int .i64 2, .int .i64 0, .flt .f64 0, .int .i64 1, .int .i64 0, .flt .f64 0, .int .i64 4, .int .i64 0, .flt .f64 0, .int .i64 1, .int .i64 0, .flt .f64 0, .int .i64 4, .int .i64 0, .flt .f64 0, .int .i64 1, .int .i64 0, .flt .f64 0, .int .i64 2, .int .i64 0, .flt .f64 0, .int .i64 1, .int .i64 0, .flt .f64 0, .int .i64 1, .int .i64 0, .flt .f64 0, .int .i64 1, .int .i64 0, .flt .f64 0]
def t26 : VT := .loop 66 0 (.sym 65 :: firstC) (bsM 0 21)
def firstV : List GV := [⟨2, 0, .flt .f64 0⟩, ⟨1, 0, .flt .f64 0⟩, ⟨2, 0, .flt .f64 0⟩, ⟨1, 0, .flt .f64 0⟩, ⟨2, 5, .flt .f64 0⟩, ⟨3, 0, .flt .f64 0⟩, ⟨5, 0, .flt .f64 0⟩, ⟨4, 0, .flt .f64 0⟩, ⟨2, 0, .flt .f64 0⟩, ⟨2, 0, .flt .f64 0⟩, ⟨2, 0, .flt .f64 0⟩, ⟨2, 0, .flt .f64 0⟩, ⟨1, 0, .flt .f64 0⟩, ⟨4, 0, .flt .f64 0⟩, ⟨1, 0, .flt .f64 0⟩, ⟨4, 0, .flt .f64 0⟩, ⟨1, 0, .flt .f64 0⟩, ⟨2, 0, .flt .f64 0⟩, ⟨1, 0, .flt .f64 0⟩, ⟨1, 0, .flt .f64 0⟩, ⟨1, 0, .flt .f64 0⟩]
theorem firstC_eq : firstC = encL encV firstV := rfl
theorem firstV_ok : ∀ v ∈ firstV, OkV v := by
 intro v hv
 simp only [firstV, List.mem_cons, List.not_mem_nil, or_false] at hv
 rcases hv with rfl | rfl | rfl | rfl | rfl | rfl | rfl | rfl | rfl | rfl | rfl | rfl | rfl | rfl | rfl | rfl | rfl | rfl | rfl | rfl | rfl <;> exact ⟨by decide, by decide, r15_0⟩
theorem denL_map (s : Nat → Option AV) : ∀ l : List AV, denL s l = l.map (den s)
 | [] => rfl
 | a :: r => by simp only [denL, List.map_cons, denL_map s r]
theorem low {Y : Sy} {vs : List AV} {n i : Nat} (h : i < n) : (Y.puts n vs).v i = Y.v i := Ext.puts vs n (Nat.le_refl n) i h
theorem lowp {Y : Sy} {x : AV} {n i : Nat} (h : i < n) : (Y.put n x).v i = Y.v i := Sy.put_ne Y x (by omega)
theorem puts_at' : ∀ {Y : Sy} (l : List AV) (n j : Nat) (x : AV), l[j]? = some x → (Y.puts n l).v (n + j) = some x
 | Y, [], n, j, x, h => by simp at h
 | Y, a :: r, n, 0, x, h => by
   cases h
   show ((Y.put n a).puts (n + 1) r).v n = some a
   rw [low (by omega)]; exact Sy.put_same _ _ _
 | Y, a :: r, n, j + 1, x, h => by
   show ((Y.put n a).puts (n + 1) r).v (n + (j + 1)) = some x
   rw [show n + (j + 1) = n + 1 + j by omega]
   exact puts_at' r (n + 1) j x (by simpa using h)
theorem encL_set3 : ∀ (l : List GV) (i : Nat) (x : GV), i < l.length → encL encV (l.set i x) = (encL encV l).take (3 * i) ++ (encV x ++ (encL encV l).drop (3 * i + 3))
 | [], i, x, h => by simp at h
 | a :: r, 0, x, h => by simp [encL, encV]
 | a :: r, i + 1, x, h => by
   have ih := encL_set3 r i x (by simpa using h)
   have e : 3 * (i + 1) = 3 * i + 3 := by omega
   have e2 : 3 * (i + 1) + 3 = (3 * i + 3) + 3 := by omega
   simp only [List.set_cons_succ, encL, ih, e2]
   rw [e]
   simp [encV]
theorem encL_at3 : ∀ (l : List GV) (i : Nat) (h : i < l.length), (encL encV l)[3 * i]? = some (.int .i64 l[i].k)
 | [], i, h => by simp at h
 | a :: r, 0, h => by simp [encL, encV]
 | a :: r, i + 1, h => by
   have ih := encL_at3 r i (by simpa using h)
   have e : 3 * (i + 1) = 3 * i + 3 := by omega
   rw [e]
   simpa [encL, encV] using ih
theorem encL_okV {l : List GV} (h : ∀ v ∈ l, OkV v) : okL (encL encV l) = true := by
 induction l with
 | nil => rfl
 | cons a r ih => exact encL_ok.okL_join (okV (h a (List.mem_cons_self ..))) (ih fun v hv => h v (List.mem_cons_of_mem _ hv))
def InvM (l : List UInt8) : Nat → List AV → Prop := fun _ vs => ∃ (n : Nat) (m : List GV), vs = .int .i64 (n : Int) :: encL encV m ∧ n ≤ l.length ∧ m.length = 21 ∧ ∀ v ∈ m, OkV v
def R26 (l : List UInt8) : Nat → List AV → Prop := fun _ ws => ∃ (n : Nat) (m : List GV), ws = encL encV m ++ [.int .i64 (n : Int)] ∧ m.length = 21 ∧ ∀ v ∈ m, OkV v
section
variable {l : List UInt8} {a : AV} {L : List (Nat → List AV → Prop)}
theorem bodyM_ok (h : Pk l a) {Y : Sy} (h64 : Y.v 64 = some a) {i : Nat} (hi : i < 21) {vs : List AV} (hI : InvM l i vs) {R : Nat → List AV → Prop} (hR : ∀ vs', InvM l (i + 1) vs' → R (i + 1) vs') :
  VOK Try.prog (QF (R26 l)) [R] (Y.puts 66 vs) (bodyM i) := by
 obtain ⟨n, m, rfl, hn, hm, hok⟩ := hI
 have hA := h.1.ok okC8
 have hlen : (encL encV m).length = 63 := by rw [encL_length lenV, hm]
 obtain ⟨Z, hZ⟩ : ∃ Z, Z = Y.puts 66 (.int .i64 (n : Int) :: encL encV m) := ⟨_, rfl⟩
 rw [← hZ]
 have z64 : Z.v 64 = some a := by rw [hZ, low (by decide)]; exact h64
 have zat : ∀ j x, (AV.int .i64 (n : Int) :: encL encV m)[j]? = some x → Z.v (66 + j) = some x := fun j x hx => by
  rw [hZ]; exact puts_at' _ _ j x hx
 have z66 : Z.v 66 = some (.int .i64 (n : Int)) := zat 0 _ rfl
 have zs : denL Z.v (symsFrom 67 63) = encL encV m := by
  have := den_syms (s := Z.v) 67 (encL encV m) fun j x hx => by
   have := zat (j + 1) x (by simpa using hx)
   rwa [show 66 + (j + 1) = 67 + j by omega] at this
  rwa [hlen] at this
 have zi : Z.v (67 + 3 * i) = some (.int .i64 m[i].k) := by
  have := zat (3 * i + 1) _ (by simpa using encL_at3 m i (by omega))
  rwa [show 66 + (3 * i + 1) = 67 + 3 * i by omega] at this
 unfold bodyM
 refine callF' (p40 (m := 3) h hn (by decide) (by decide)) (by simp only [denL, den, z64, z66]; rfl) (by simp only [okL, okC, hA]) ⟨?_, trivial⟩
 rintro ws ⟨v, n', rfl, hv, hn'⟩
 refine VOK_lt (r := .bool (decide ((0 : Int) < (v : Int)))) (run_gtr ..) rfl (VOK_ite rfl (fun _ => ?_) (fun _ => ?_))
 ·have hk := hok _ (List.getElem_mem (show i < m.length by omega))
  have e41 : ∀ Y2 : Sy, (∀ j, j < 130 → Y2.v j = Z.v j) → Y2.v 134 = some (.int .i64 (n' : Int)) → denL Y2.v [.sym 64, .sym 134, .sym (67 + 3 * i)] = [a, .int .i64 (n' : Int), .int .i64 m[i].k] := fun Y2 h1 h2 => by
   simp only [denL, den, h1 64 (by decide), h1 (67 + 3 * i) (by omega), h2, z64, zi]
  refine callF' (p41 (n := n') h hn' hk.1 hk.2.1) (e41 _ (fun j hj => (lowp (n := 135) (by omega)).trans ((low (n := 133) (by omega)).trans (low (n := 130) (by omega)))) rfl) (by simp only [okL, okC, hA]) ⟨?_, trivial⟩
  rintro ws ⟨x, n2, rfl, hx, hn2⟩
  have fin5 : ∀ Z' : Sy, (∀ j, j < 130 → Z'.v j = Z.v j) → Z'.v 142 = some (.int .i64 (n2 : Int)) → Z'.v 139 = some (.int .i64 x.k) → Z'.v 140 = some (.int .i64 x.i) → Z'.v 141 = some x.f → denL Z'.v (.sym 142 :: putM i (symsFrom 67 63)) = .int .i64 (n2 : Int) :: encL encV (m.set i x) := fun Z' hz h1 h2 h3 h4 => by
   have e : denL Z'.v (symsFrom 67 63) = encL encV m := by
    rw [← zs]; exact denL_lt (n := 130) hz rfl
   unfold putM
   rw [denL_map, List.map_cons, List.map_append, List.map_append, List.map_take, List.map_drop, ← denL_map, e, encL_set3 m i x (by omega)]
   simp only [den, h1, h2, h3, h4, List.map_cons, List.map_nil, encV]
  refine VOK_again rfl (hR _ ⟨n2, m.set i x, ?_, hn2, by rw [List.length_set, hm], fun y hy => ?_⟩)
  ·exact fin5 _ (fun j hj => (low (n := 139) (by omega)).trans ((low (n := 136) (by omega)).trans ((lowp (n := 135) (by omega)).trans ((low (n := 133) (by omega)).trans (low (n := 130) (by omega)))))) rfl rfl rfl rfl
  ·rcases List.mem_or_eq_of_mem_set hy with hy | rfl
   ·exact hok _ hy
   ·exact hx
 ·refine VOK_again rfl (hR _ ⟨n', m, ?_, hn', hm, hok⟩)
  show denL _ (.sym 134 :: symsFrom 67 63) = _
  simp only [denL]
  refine congr (congrArg _ rfl) ?_
  rw [← zs]
  exact denL_lt (n := 130) (fun j hj => (lowp (n := 135) (by omega)).trans ((low (n := 133) (by omega)).trans (low (n := 130) (by omega)))) rfl
theorem bsM_ok (h : Pk l a) {Y : Sy} (h64 : Y.v 64 = some a) : ∀ (n i : Nat), i + n = 21 → VOKs Try.prog (QF (R26 l)) (InvM l) (fun j _ => 21 - j) [] 66 i Y (bsM i n)
 | 0, i, hi => by
   refine ⟨fun vs hvs hI => ?_, trivial⟩
   obtain ⟨n, m, rfl, hn, hm, hok⟩ := hI
   have hlen : (encL encV m).length = 63 := by rw [encL_length lenV, hm]
   have e : denL (Y.puts 66 (.int .i64 (n : Int) :: encL encV m)).v (symsFrom 67 63 ++ [.sym 66]) = encL encV m ++ [.int .i64 (n : Int)] := by
    have zat := fun j x hx => puts_at' (Y := Y) (AV.int .i64 (n : Int) :: encL encV m) 66 j x hx
    rw [denL_map, List.map_append, ← denL_map]
    have := den_syms (s := (Y.puts 66 (.int .i64 (n : Int) :: encL encV m)).v) 67 (encL encV m) fun j x hx => by
     have := zat (j + 1) x (by simpa using hx)
     rwa [show 66 + (j + 1) = 67 + j by omega] at this
    rw [hlen] at this
    rw [this]
    simp only [List.map_cons, List.map_nil, den, zat 0 _ rfl]
   refine VOK_fin ?_ ?_
   ·rw [e]; exact encL_ok.okL_join (encL_okV hok) rfl
   ·rw [e]; exact ⟨n, m, rfl, hm, hok⟩
 | n + 1, i, hi => ⟨fun vs hvs hI => bodyM_ok h h64 (by omega) hI fun vs' h' => ⟨h', by show 21 - (i + 1) < 21 - i; omega⟩, bsM_ok h h64 n (i + 1) (by omega)⟩
end
end Go.Proofs.Ytbceomdmpbmnkaa.vars
set_option maxRecDepth 100000
set_option linter.unusedVariables false
set_option linter.unusedSimpArgs false
namespace Go.Proofs.Ytbceomdmpbmnkaa.vars
open Go Go.Sx
section
variable {l : List UInt8} {a : AV} {L : List (Nat → List AV → Prop)}
theorem p26 (h : Pk l a) : CF Try.prog 26 ft26 [a, .int .i64 0] (R26 l) := by
 refine cf_tree (c := c26) (n := 300) (t := t26) mo ov rfl (fun Y _ => known0 _) (by kernel_rfl) fun Y hf hg => ?_
 unfold t26
 refine ⟨InvM l, fun j _ => 21 - j, fun j vs hI => ?_, ?_, bsM_ok h rfl 21 0 rfl⟩
 ·obtain ⟨n, m, rfl, _, _, hok⟩ := hI
  rw [okL_cons]; exact encL_okV hok
 ·refine ⟨0, firstV, ?_, Nat.zero_le _, rfl, firstV_ok⟩
  rw [← firstC_eq]; rfl
end
end Go.Proofs.Ytbceomdmpbmnkaa.vars
