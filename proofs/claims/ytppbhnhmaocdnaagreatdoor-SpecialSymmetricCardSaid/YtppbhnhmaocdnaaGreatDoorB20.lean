/- Walks and lemmas: Comparing fractions. Comparing fractions: the walk. Comparing fractions: the walk, joined. Intervals of fractions: validity, what they contain. -/
import Derived.ScopeJumps
import Derived.WalkMore
import Derived.Test.YtppbhnhmaocdnaaGreatDoorB19
set_option linter.unusedVariables false
set_option linter.unusedSimpArgs false
namespace Go.Proofs.YtppbhnhmaocdnaaGreatDoor
open Go.RowKit Go.Shelf

def cmpQ (n1 d1 n2 d2 : Int) : Int := cmpI (n1 * d2) (n2 * d1)

theorem cmpI_cases (x y : Int) : (x < y ∧ cmpI x y = -1) ∨ (x = y ∧ cmpI x y = 0) ∨ (y < x ∧ cmpI x y = 1) := by
  unfold cmpI
  rcases Int.lt_trichotomy x y with h | h | h
  · left; exact ⟨h, if_pos h⟩
  · right; left; subst h; simp
  · right; right; rw [if_neg (by omega), if_pos h]; exact ⟨h, rfl⟩

theorem cmpQ_shift {n1 d1 n2 d2 : Int} (h1 : 0 < d1) (h2 : 0 < d2) (h : n1 / d1 = n2 / d2) : cmpQ n1 d1 n2 d2 = cmpI (n1 % d1 * d2) (n2 % d2 * d1) := by
  have e1 := Int.mul_ediv_add_emod n1 d1
  have e2 := Int.mul_ediv_add_emod n2 d2
  rw [h] at e1
  generalize n2 / d2 = q at *
  generalize n1 % d1 = r at *
  generalize n2 % d2 = s at *
  have : n1 * d2 - n2 * d1 = r * d2 - s * d1 := by rw [← e1, ← e2]; grind
  unfold cmpQ
  rcases cmpI_cases (n1 * d2) (n2 * d1) with ⟨a, b⟩ | ⟨a, b⟩ | ⟨a, b⟩ <;> rcases cmpI_cases (r * d2) (s * d1) with ⟨c, d⟩ | ⟨c, d⟩ | ⟨c, d⟩ <;> rw [b, d] <;> omega

theorem cmpQ_lt {n1 d1 n2 d2 : Int} (h1 : 0 < d1) (h2 : 0 < d2) (h : n1 / d1 < n2 / d2) : cmpQ n1 d1 n2 d2 = -1 := by
  have a1 : n1 < (n1 / d1 + 1) * d1 := by have := Int.lt_ediv_add_one_mul_self n1 h1; exact this
  have a2 : n2 / d2 * d2 ≤ n2 := Int.ediv_mul_le n2 (by omega)
  have a3 : (n1 / d1 + 1) * d1 ≤ n2 / d2 * d1 := Int.mul_le_mul_of_nonneg_right (by omega) (by omega)
  have a4 : n1 < n2 / d2 * d1 := by omega
  have a5 : n1 * d2 < n2 / d2 * d1 * d2 := Int.mul_lt_mul_of_pos_right a4 h2
  have a6 : n2 / d2 * d2 * d1 ≤ n2 * d1 := Int.mul_le_mul_of_nonneg_right a2 (by omega)
  have a7 : n2 / d2 * d1 * d2 = n2 / d2 * d2 * d1 := by rw [Int.mul_right_comm]
  unfold cmpQ cmpI
  rw [if_pos (by omega)]

theorem cmpQ_swap (n1 d1 n2 d2 : Int) : cmpQ n1 d1 n2 d2 = - cmpQ n2 d2 n1 d1 := by
  unfold cmpQ
  rcases cmpI_cases (n1 * d2) (n2 * d1) with ⟨a, b⟩ | ⟨a, b⟩ | ⟨a, b⟩ <;> rcases cmpI_cases (n2 * d1) (n1 * d2) with ⟨c, d⟩ | ⟨c, d⟩ | ⟨c, d⟩ <;> rw [b, d] <;> omega

theorem cmpQ_whole {n1 d1 n2 d2 : Int} (h1 : 0 < d1) (h2 : 0 < d2) (h : n1 / d1 ≠ n2 / d2) : cmpQ n1 d1 n2 d2 = cmpI (n1 / d1) (n2 / d2) := by
  rcases Int.lt_or_gt_of_ne h with h' | h'
  · rw [cmpQ_lt h1 h2 h']; unfold cmpI; rw [if_pos h']
  · rw [cmpQ_swap, cmpQ_lt h2 h1 h']; unfold cmpI; rw [if_neg (by omega), if_pos h']; rfl

theorem cmpQ_turn {n1 d1 n2 d2 : Int} (h1 : 0 < d1) (h2 : 0 < d2) (h : n1 / d1 = n2 / d2) : cmpQ n1 d1 n2 d2 = - cmpQ d1 (n1 % d1) d2 (n2 % d2) := by
  rw [cmpQ_shift h1 h2 h, cmpQ_swap d1]
  unfold cmpQ
  rw [Int.neg_neg, Int.mul_comm (n1 % d1), Int.mul_comm (n2 % d2)]
theorem cmpQ_zero {n1 d1 n2 d2 : Int} (h1 : 0 < d1) (h2 : 0 < d2) (h : n1 / d1 = n2 / d2) (hr : n1 % d1 = 0) (hs : n2 % d2 = 0) : cmpQ n1 d1 n2 d2 = 0 := by
  rw [cmpQ_shift h1 h2 h, hr, hs]; simp [cmpI]
theorem cmpQ_left {n1 d1 n2 d2 : Int} (h1 : 0 < d1) (h2 : 0 < d2) (h : n1 / d1 = n2 / d2) (hr : n1 % d1 = 0) (hs : n2 % d2 ≠ 0) : cmpQ n1 d1 n2 d2 = -1 := by
  have := Int.emod_nonneg n2 (show d2 ≠ 0 by omega)
  have h3 : 0 < n2 % d2 * d1 := Int.mul_pos (by omega) h1
  rw [cmpQ_shift h1 h2 h, hr, Int.zero_mul]; unfold cmpI; rw [if_pos h3]
theorem cmpQ_right {n1 d1 n2 d2 : Int} (h1 : 0 < d1) (h2 : 0 < d2) (h : n1 / d1 = n2 / d2) (hr : n1 % d1 ≠ 0) (hs : n2 % d2 = 0) : cmpQ n1 d1 n2 d2 = 1 := by
  rw [cmpQ_swap, cmpQ_left h2 h1 h.symm hs hr]; rfl
end Go.Proofs.YtppbhnhmaocdnaaGreatDoor
namespace Go.Proofs.YtppbhnhmaocdnaaGreatDoor
open Go.RowKit Go.Shelf

open Classical in
noncomputable def intOfStr (s : ByteArray) : Nat := if h : ∃ n : Int, s = str n then h.choose.natAbs else 0
theorem intOfStr_eq (n : Int) : intOfStr (str n) = n.natAbs := by
  have hx : ∃ m : Int, str n = str m := ⟨n, rfl⟩
  unfold intOfStr
  rw [dif_pos hx, ← str_inj hx.choose_spec]
noncomputable def denAt (b : Nat) (W : World) : Nat := match W.cell? ⟨b, 1, none⟩ with | some (.string s) => intOfStr s | _ => 0

structure CmpI (w : World) (N : Int) (x1 y1 x2 y2 s : Int) (W : World) : Prop where
  a : RC w.heap.size W (.string (str x1)) (.string (str y1))
  b : RC (w.heap.size + 1) W (.string (str x2)) (.string (str y2))
  l : Below w.heap.size w W
  t : TabB w.heap.size W
  hx1 : x1.natAbs < big
  hy1 : y1.natAbs < big
  hx2 : x2.natAbs < big
  hy2 : y2.natAbs < big
  py1 : 0 < y1
  py2 : 0 < y2
  hs : s = 1 ∨ s = -1
  e : s * cmpQ x1 y1 x2 y2 = N

def CmpJ (w : World) (v1 v2 : Value) (N : Int) (a : Act) (W : World) : Prop := ∃ (x1 y1 x2 y2 s : Int) (u6 u7 u8 u9 u10 u11 u12 u13 u14 u15 u16 u17 u18 u19 u20 u21 u22 u23 u24 u25 u26 u27 u28 u29 u30 u31 u32 u33 u34 u35 u36 u37 u38 u39 u40 u41 u42 u43 u44 u45 u46 u47 u48 u49 u50 u51 u52 u53 u54 u55 u56 u57 u58 u59 u60 u61 u62 u63 u64 u65 u66 u67 u68 u69 u70 u71 u72 u73 : Value), CmpI w N x1 y1 x2 y2 s W ∧
  a = { tmps := #[v1, v2, .pointer (some ⟨w.heap.size, 0, none⟩), .pointer (some ⟨w.heap.size + 1, 0, none⟩), .int .i64 0, .int .i64 s, u6, u7, u8, u9, u10, u11, u12, u13, u14, u15, u16, u17, u18, u19, u20, u21, u22, u23, u24, u25, u26, u27, u28, u29, u30, u31, u32, u33, u34, u35, u36, u37, u38, u39, u40, u41, u42, u43, u44, u45, u46, u47, u48, u49, u50, u51, u52, u53, u54, u55, u56, u57, u58, u59, u60, u61, u62, u63, u64, u65, u66, u67, u68, u69, u70, u71, u72, u73], defers := [] }

structure Turn (w W : World) (x1 y1 x2 y2 : Int) (sx1 sy1 sx2 sy2 p1 r1 p2 r2 : ByteArray) (c : Int) : Prop where
  c1 : W.cell? ⟨w.heap.size, 0, none⟩ = some (.string sx1)
  c2 : W.cell? ⟨w.heap.size, 1, none⟩ = some (.string sy1)
  c3 : W.cell? ⟨w.heap.size + 1, 0, none⟩ = some (.string sx2)
  c4 : W.cell? ⟨w.heap.size + 1, 1, none⟩ = some (.string sy2)
  d1 : Calls Tryz.prog 51 #[.string sx1, .string sy1] W fun e w' => e = .returned (.tuple #[.string p1, .string r1, .int .i64 0]) ∧ Below W.heap.size W w'
  d2 : ∀ W', TabOf W' → Calls Tryz.prog 51 #[.string sx2, .string sy2] W' fun e w' => e = .returned (.tuple #[.string p2, .string r2, .int .i64 0]) ∧ Below W'.heap.size W' w'
  cc : ∀ W', Calls Tryz.prog 52 #[.string p1, .string p2] W' fun e w' => e = .returned (.int .i64 c) ∧ Below W'.heap.size W' w'
  hc : c = cmpI (x1 / y1) (x2 / y2)
  t1 : (r1.toList == [48]) = decide (x1 % y1 = 0)
  t2 : (r2.toList == [48]) = decide (x2 % y2 = 0)
  e1 : sy1 = str y1
  e2 : r1 = str (x1 % y1)
  e3 : sy2 = str y2
  e4 : r2 = str (x2 % y2)

theorem turn_of {w W : World} {N x1 y1 x2 y2 s : Int} (h : CmpI w N x1 y1 x2 y2 s W) : ∃ sx1 sy1 sx2 sy2 p1 r1 p2 r2 c, Turn w W x1 y1 x2 y2 sx1 sy1 sx2 sy2 p1 r1 p2 r2 c := by
  have hd1 := div_small (by have := h.py1; omega) h.hx1 h.hy1
  have hd2 := div_small (by have := h.py2; omega) h.hx2 h.hy2
  exact ⟨str x1, str y1, str x2, str y2, str (x1 / y1), str (x1 % y1), str (x2 / y2), str (x2 % y2), _,
    ⟨h.a.c00, h.a.c01, h.b.c00, h.b.c01, div_in x1 y1 W h.hx1 h.hy1 h.t.here (by have := h.py1; omega), fun W' h' => div_in x2 y2 W' h.hx2 h.hy2 h' (by have := h.py2; omega),
      fun W' => cmp_in (x1 / y1) (x2 / y2) W' hd1.1 hd2.1, rfl, str_test0 _, str_test0 _, rfl, rfl, rfl, rfl⟩⟩

theorem turn_ends {w W : World} {N x1 y1 x2 y2 s : Int} (h : CmpI w N x1 y1 x2 y2 s W) {sx1 sy1 sx2 sy2 p1 r1 p2 r2 : ByteArray} {c : Int} (t : Turn w W x1 y1 x2 y2 sx1 sy1 sx2 sy2 p1 r1 p2 r2 c) :
    (c ≠ 0 ∧ (c = 1 ∨ c = -1) ∧ s * c = N) ∨ (c = 0 ∧ (r1.toList == [48]) = true ∧ (r2.toList == [48]) = true ∧ N = 0) ∨ (c = 0 ∧ (r1.toList == [48]) = true ∧ (r2.toList == [48]) = false ∧ -s = N) ∨
    (c = 0 ∧ (r1.toList == [48]) = false ∧ (r2.toList == [48]) = true ∧ s = N) ∨ (c = 0 ∧ (r1.toList == [48]) = false ∧ (r2.toList == [48]) = false ∧ -s * cmpQ y1 (x1 % y1) y2 (x2 % y2) = N ∧ 0 < x1 % y1 ∧ 0 < x2 % y2 ∧ x1 % y1 < y1 ∧ x2 % y2 < y2) := by
  have hr0 := Int.emod_nonneg x1 (show y1 ≠ 0 by have := h.py1; omega)
  have hr1 := Int.emod_lt_of_pos x1 h.py1
  have ht0 := Int.emod_nonneg x2 (show y2 ≠ 0 by have := h.py2; omega)
  have ht1 := Int.emod_lt_of_pos x2 h.py2
  have he := h.e
  rw [t.hc, t.t1, t.t2]
  by_cases hpq : x1 / y1 = x2 / y2
  · have hc0 : cmpI (x1 / y1) (x2 / y2) = 0 := by rw [hpq]; simp [cmpI]
    rw [hc0]
    right
    by_cases a : x1 % y1 = 0 <;> by_cases b : x2 % y2 = 0 <;> simp only [a, b, decide_true, decide_false, true_and, ne_eq]
    · left; rw [cmpQ_zero h.py1 h.py2 hpq a b] at he; omega
    · right; left; rw [cmpQ_left h.py1 h.py2 hpq a b] at he; omega
    · right; right; left; rw [cmpQ_right h.py1 h.py2 hpq a b] at he; omega
    · right; right; right; rw [cmpQ_turn h.py1 h.py2 hpq] at he
      refine ⟨?_, by omega, by omega, hr1, ht1⟩
      rw [← he, Int.neg_mul, Int.mul_neg]
  · left
    rw [cmpQ_whole h.py1 h.py2 hpq] at he
    refine ⟨?_, ?_, he⟩
    · rcases cmpI_cases (x1 / y1) (x2 / y2) with ⟨_, b⟩ | ⟨b, _⟩ | ⟨_, b⟩
      · rw [b]; decide
      · exact absurd b hpq
      · rw [b]; decide
    · rcases cmpI_cases (x1 / y1) (x2 / y2) with ⟨_, b⟩ | ⟨b, _⟩ | ⟨_, b⟩
      · right; exact b
      · exact absurd b hpq
      · left; exact b
theorem RC.otherPut {R R' : Nat} {W : World} {a b : Value} (h : RC R W a b) (hn : R' ≠ R) (x y : Value) : RC R ((W.setCell ⟨R', 0, none⟩ x).setCell ⟨R', 1, none⟩ y) a b :=
  ⟨setOther (setOther h.c00 hn _) hn _, setOther (setOther h.c01 hn _) hn _, fun j => by rw [World.frozen?_setCell, World.frozen?_setCell]; exact h.f0 j⟩

set_option maxHeartbeats 2000000 in
theorem turn_next {w W W3 : World} {N x1 y1 x2 y2 s : Int} (h : CmpI w N x1 y1 x2 y2 s W) {sx1 sy1 sx2 sy2 p1 r1 p2 r2 : ByteArray} {c : Int} (t : Turn w W x1 y1 x2 y2 sx1 sy1 sx2 sy2 p1 r1 p2 r2 c) (hb : Below W.heap.size W W3)
    (he : -s * cmpQ y1 (x1 % y1) y2 (x2 % y2) = N ∧ 0 < x1 % y1 ∧ 0 < x2 % y2 ∧ x1 % y1 < y1 ∧ x2 % y2 < y2) :
    CmpI w N y1 (x1 % y1) y2 (x2 % y2) (-s) ((((W3.setCell ⟨w.heap.size, 0, none⟩ (.string sy1)).setCell ⟨w.heap.size, 1, none⟩ (.string r1)).setCell ⟨w.heap.size + 1, 0, none⟩ (.string sy2)).setCell ⟨w.heap.size + 1, 1, none⟩ (.string r2)).drew ∧
    denAt w.heap.size ((((W3.setCell ⟨w.heap.size, 0, none⟩ (.string sy1)).setCell ⟨w.heap.size, 1, none⟩ (.string r1)).setCell ⟨w.heap.size + 1, 0, none⟩ (.string sy2)).setCell ⟨w.heap.size + 1, 1, none⟩ (.string r2)).drew < denAt w.heap.size W := by
  obtain ⟨e, p1', p2', q1, q2⟩ := he
  have a3 := h.a.below hb
  have b3 := h.b.below hb
  have a4 := (a3.put (.string sy1) (.string r1)).otherPut (R' := w.heap.size + 1) (by omega) (.string sy2) (.string r2)
  have b4 := (b3.otherPut (R' := w.heap.size) (by omega) (.string sy1) (.string r1)).put (.string sy2) (.string r2)
  have l3 := h.l.trans (hb.mono h.l.size)
  have l4 := below_put2 (below_put2 l3 (.string sy1) (.string r1) (Nat.le_refl _)) (.string sy2) (.string r2) (R := w.heap.size + 1) (by omega)
  have lw : Below w.heap.size W ((((W3.setCell ⟨w.heap.size, 0, none⟩ (.string sy1)).setCell ⟨w.heap.size, 1, none⟩ (.string r1)).setCell ⟨w.heap.size + 1, 0, none⟩ (.string sy2)).setCell ⟨w.heap.size + 1, 1, none⟩ (.string r2)) :=
    ((((hb.mono h.l.size).setCell (p := ⟨w.heap.size, 0, none⟩) (Nat.le_refl _) _).setCell (p := ⟨w.heap.size, 1, none⟩) (Nat.le_refl _) _).setCell (p := ⟨w.heap.size + 1, 0, none⟩) (by show w.heap.size ≤ w.heap.size + 1; omega) _).setCell (p := ⟨w.heap.size + 1, 1, none⟩) (by show w.heap.size ≤ w.heap.size + 1; omega) _
  have t4 := h.t.below (lw.drew)
  have hy1 := h.hy1
  have hy2 := h.hy2
  have e1 := t.e1
  have e2 := t.e2
  have e3 := t.e3
  have e4 := t.e4
  subst e1 e2 e3 e4
  refine ⟨⟨⟨a4.c00, a4.c01, a4.f0⟩, ⟨b4.c00, b4.c01, b4.f0⟩, l4.drew, t4, h.hy1, by omega, h.hy2, by omega, p1', p2', by rcases h.hs with h | h <;> rw [h] <;> simp, e⟩, ?_⟩
  have m1 : denAt w.heap.size W = y1.natAbs := by unfold denAt; rw [t.c2]; exact intOfStr_eq y1
  have m2 : ∀ W', W'.cell? ⟨w.heap.size, 1, none⟩ = some (.string (str (x1 % y1))) → denAt w.heap.size W' = (x1 % y1).natAbs := fun W' h => by unfold denAt; rw [h]; exact intOfStr_eq _
  rw [m1, m2 _ (by exact a4.c01)]
  omega
end Go.Proofs.YtppbhnhmaocdnaaGreatDoor
namespace Go.Proofs.YtppbhnhmaocdnaaGreatDoor
open Go.RowKit Go.Shelf

theorem wp_scope_label {P : Program} {a : Act} {w : World} {Q : Exit → Act → World → Prop} {pre mid rest : Code} (l : Nat) (J : Act → World → Prop) (μ : Act → World → Nat) (hf : findLabel (pre.seq (mid.seq ((Code.label l).seq rest))) l = some (Code.skip.seq rest))
    (first : ∀ R : Code, (∀ a w, J a w → R.wp P (Exit.jump l J Q) a w) → (pre.seq (mid.seq ((Code.label l).seq R))).wp P (Exit.jump l J Q) a w)
    (pass : ∀ a w, J a w → rest.wp P (Exit.jump l (fun a' w' => J a' w' ∧ μ a' w' < μ a w) Q) a w) : (Code.scope (pre.seq (mid.seq ((Code.label l).seq rest)))).wp P Q a w :=
  wp_scope_jumps l J μ hf (first rest (fun a w h => wp_mono (pass a w h) (fun e a' w' h' => by
    cases e with
    | goto l' => exact ⟨h'.1, h'.2.1⟩
    | _ => exact h'))) (fun a w h => wp_seq (wp_skip (pass a w h)))

set_option maxRecDepth 100000 in
set_option maxHeartbeats 8000000 in
theorem rcmp_in (n1 d1 n2 d2 : Int) (w : World) (h1 : IsR n1 d1) (h2 : IsR n2 d2) (ht : TabOf w) :
    Calls Tryz.prog 17 #[RV n1 d1, RV n2 d2] w fun e w' => e = .returned (.int .i64 (cmpQ n1 d1 n2 d2)) ∧ Below w.heap.size w w' := by
  unfold RV
  go_enter Tryz.func17, Tryz.ntmps17
  go_wp2
  refine wp_scope_label 0 (CmpJ w (.agg #[.string (str n1), .string (str d1)]) (.agg #[.string (str n2), .string (str d2)]) (cmpQ n1 d1 n2 d2)) (fun _ W => denAt w.heap.size W) rfl ?_ ?_
  · intro R hR
    have HV1 := Lib.hid (fun W h => rvalid_in n1 d1 W h1.1 h1.2.1 h)
    have HV2 := Lib.hid (fun W h => rvalid_in n2 d2 W h2.1 h2.2.1 h)
    have e1 := h1.2.2
    have e2 := h2.2.2
    have hst : ∀ W, Below w.heap.size w W → RC w.heap.size W (.string (str n1)) (.string (str d1)) → RC (w.heap.size + 1) W (.string (str n2)) (.string (str d2)) → CmpI w (cmpQ n1 d1 n2 d2) n1 d1 n2 d2 1 W :=
      fun W hb ha hb' => ⟨ha, hb', hb, ht.toB.below hb, h1.1, h1.2.1, h2.1, h2.2.1, h1.pos, h2.pos, .inl rfl, by rw [Int.one_mul]⟩
    have HST := Lib.hid hst
    have HR := Lib.hid hR
    have bn := belowNew w (.cells #[.string (str n1), .string (str d1)] 25)
    have bn2 := belowNew (w.alloc (.cells #[.string (str n1), .string (str d1)] 25)) (.cells #[.string (str n2), .string (str d2)] 25)
    have r1 := (RC.new w 25 (.string (str n1)) (.string (str d1))).below bn2
    have r2 := RC.new (w.alloc (.cells #[.string (str n1), .string (str d1)] 25)) 25 (.string (str n2)) (.string (str d2))
    rw [sizeNew] at r2
    have b2 := bn.trans (bn2.mono bn.size)
    have c1 := r1.c00
    have c2 := r1.c01
    have c3 := r2.c00
    have c4 := r2.c01
    unfold RV at HV1 HV2
    clear hst hR h1 h2
    rw [e1] at HV1
    rw [e2] at HV2
    clear e1 e2
    go_wp2_with (first
      | (have HA := HV1; go_at_call 50; refine (HA.out _ (ht.below b2)).mono ?_; clear HV1 HA; rintro e w3 ⟨rfl, hb3⟩; have k1 := r1.below hb3; have k2 := r2.below hb3; have c1 := k1.c00; have c2 := k1.c01; have c3 := k2.c00; have c4 := k2.c01; have b3 := b2.trans (hb3.mono b2.size))
      | (have HA := HV2; go_at_call 50; refine (HA.out _ (ht.below b3)).mono ?_; clear HV2 HA; rintro e w4 ⟨rfl, hb4⟩; have k3 := k1.below hb4; have k4 := k2.below hb4; have b4 := b3.trans (hb4.mono b3.size)))
    refine wp_label ?_
    go_wp2
    refine HR.out _ _ ⟨n1, d1, n2, d2, 1, _, _, _, _, _, _, _, _, _, _, _, _, _, _, _, _, _, _, _, _, _, _, _, _, _, _, _, _, _, _, _, _, _, _, _, _, _, _, _, _, _, _, _, _, _, _, _, _, _, _, _, _, _, _, _, _, _, _, _, _, _, _, _, _, _, _, _, _, HST.out _ b4 k3 k4, rfl⟩
  · clear h1 h2 ht
    rintro a W ⟨x1, y1, x2, y2, s, u6, u7, u8, u9, u10, u11, u12, u13, u14, u15, u16, u17, u18, u19, u20, u21, u22, u23, u24, u25, u26, u27, u28, u29, u30, u31, u32, u33, u34, u35, u36, u37, u38, u39, u40, u41, u42, u43, u44, u45, u46, u47, u48, u49, u50, u51, u52, u53, u54, u55, u56, u57, u58, u59, u60, u61, u62, u63, u64, u65, u66, u67, u68, u69, u70, u71, u72, u73, hI, rfl⟩
    obtain ⟨sx1, sy1, sx2, sy2, p1, r1, p2, r2, c, hT⟩ := turn_of hI
    have hE := turn_ends hI hT
    have HI := Lib.hid hI
    have HT := Lib.hid hT
    have HD1 := Lib.hid hT.d1
    have HD2 := Lib.hid hT.d2
    have HC := Lib.hid hT.cc
    have c1 := hT.c1
    have c2 := hT.c2
    have c3 := hT.c3
    have c4 := hT.c4
    have hs := hI.hs
    have hl := hI.l
    have htW := hI.t.here
    have ha : RC w.heap.size W (.string sx1) (.string sy1) := ⟨hT.c1, hT.c2, hI.a.f0⟩
    have hb : RC (w.heap.size + 1) W (.string sx2) (.string sy2) := ⟨hT.c3, hT.c4, hI.b.f0⟩
    clear hI hT
    rcases hE with ⟨_, hc | hc, he⟩ | ⟨hc, hA, hB, he⟩ | ⟨hc, hA, hB, he⟩ | ⟨hc, hA, hB, he⟩ | ⟨hc, hA, hB, he⟩
    all_goals subst hc
    · rcases hs with rfl | rfl
      · go_wp2_with (first
          | (have HA := HD1; go_at_call 51; refine (HA.out).mono ?_; clear HD1 HA; rintro e w1 ⟨rfl, hb1⟩; have c3 := Below.get hb1 c3; have c4 := Below.get hb1 c4; have k1 := ha.below hb1; have k2 := hb.below hb1)
          | (go_at_call 51; refine (HD2.out _ (htW.below hb1)).mono ?_; rintro e w2 ⟨rfl, hb2⟩; have k3 := k1.below hb2; have k4 := k2.below hb2)
          | (go_at_call 52; refine (HC.out _).mono ?_; rintro e w3 ⟨rfl, hb3⟩; have k5 := k3.below hb3; have k6 := k4.below hb3; have c5 := k5.c00; have c6 := k5.c01; have c7 := k6.c00; have c8 := k6.c01; have f1 := k5.f0; have f2 := k6.f0))
        refine ⟨rfl, .int .i64 (cmpQ n1 d1 n2 d2), by simp [results, Tryz.f17, go_sem] <;> omega, rfl, hl.trans ((hb1.trans ((hb2.mono hb1.size).trans (hb3.mono (Nat.le_trans hb1.size hb2.size)))).mono hl.size)⟩
      · go_wp2_with (first
          | (have HA := HD1; go_at_call 51; refine (HA.out).mono ?_; clear HD1 HA; rintro e w1 ⟨rfl, hb1⟩; have c3 := Below.get hb1 c3; have c4 := Below.get hb1 c4; have k1 := ha.below hb1; have k2 := hb.below hb1)
          | (go_at_call 51; refine (HD2.out _ (htW.below hb1)).mono ?_; rintro e w2 ⟨rfl, hb2⟩; have k3 := k1.below hb2; have k4 := k2.below hb2)
          | (go_at_call 52; refine (HC.out _).mono ?_; rintro e w3 ⟨rfl, hb3⟩; have k5 := k3.below hb3; have k6 := k4.below hb3; have c5 := k5.c00; have c6 := k5.c01; have c7 := k6.c00; have c8 := k6.c01; have f1 := k5.f0; have f2 := k6.f0))
        refine ⟨rfl, .int .i64 (cmpQ n1 d1 n2 d2), by simp [results, Tryz.f17, go_sem] <;> omega, rfl, hl.trans ((hb1.trans ((hb2.mono hb1.size).trans (hb3.mono (Nat.le_trans hb1.size hb2.size)))).mono hl.size)⟩
    · rcases hs with rfl | rfl
      · go_wp2_with (first
          | (have HA := HD1; go_at_call 51; refine (HA.out).mono ?_; clear HD1 HA; rintro e w1 ⟨rfl, hb1⟩; have c3 := Below.get hb1 c3; have c4 := Below.get hb1 c4; have k1 := ha.below hb1; have k2 := hb.below hb1)
          | (go_at_call 51; refine (HD2.out _ (htW.below hb1)).mono ?_; rintro e w2 ⟨rfl, hb2⟩; have k3 := k1.below hb2; have k4 := k2.below hb2)
          | (go_at_call 52; refine (HC.out _).mono ?_; rintro e w3 ⟨rfl, hb3⟩; have k5 := k3.below hb3; have k6 := k4.below hb3; have c5 := k5.c00; have c6 := k5.c01; have c7 := k6.c00; have c8 := k6.c01; have f1 := k5.f0; have f2 := k6.f0))
        refine ⟨rfl, .int .i64 (cmpQ n1 d1 n2 d2), by simp [results, Tryz.f17, go_sem] <;> omega, rfl, hl.trans ((hb1.trans ((hb2.mono hb1.size).trans (hb3.mono (Nat.le_trans hb1.size hb2.size)))).mono hl.size)⟩
      · go_wp2_with (first
          | (have HA := HD1; go_at_call 51; refine (HA.out).mono ?_; clear HD1 HA; rintro e w1 ⟨rfl, hb1⟩; have c3 := Below.get hb1 c3; have c4 := Below.get hb1 c4; have k1 := ha.below hb1; have k2 := hb.below hb1)
          | (go_at_call 51; refine (HD2.out _ (htW.below hb1)).mono ?_; rintro e w2 ⟨rfl, hb2⟩; have k3 := k1.below hb2; have k4 := k2.below hb2)
          | (go_at_call 52; refine (HC.out _).mono ?_; rintro e w3 ⟨rfl, hb3⟩; have k5 := k3.below hb3; have k6 := k4.below hb3; have c5 := k5.c00; have c6 := k5.c01; have c7 := k6.c00; have c8 := k6.c01; have f1 := k5.f0; have f2 := k6.f0))
        refine ⟨rfl, .int .i64 (cmpQ n1 d1 n2 d2), by simp [results, Tryz.f17, go_sem] <;> omega, rfl, hl.trans ((hb1.trans ((hb2.mono hb1.size).trans (hb3.mono (Nat.le_trans hb1.size hb2.size)))).mono hl.size)⟩
    · rcases hs with rfl | rfl
      · go_wp2_with (first
          | (have HA := HD1; go_at_call 51; refine (HA.out).mono ?_; clear HD1 HA; rintro e w1 ⟨rfl, hb1⟩; have c3 := Below.get hb1 c3; have c4 := Below.get hb1 c4; have k1 := ha.below hb1; have k2 := hb.below hb1)
          | (go_at_call 51; refine (HD2.out _ (htW.below hb1)).mono ?_; rintro e w2 ⟨rfl, hb2⟩; have k3 := k1.below hb2; have k4 := k2.below hb2)
          | (go_at_call 52; refine (HC.out _).mono ?_; rintro e w3 ⟨rfl, hb3⟩; have k5 := k3.below hb3; have k6 := k4.below hb3; have c5 := k5.c00; have c6 := k5.c01; have c7 := k6.c00; have c8 := k6.c01; have f1 := k5.f0; have f2 := k6.f0))
        refine ⟨rfl, .int .i64 (cmpQ n1 d1 n2 d2), by simp [results, Tryz.f17, go_sem] <;> omega, rfl, hl.trans ((hb1.trans ((hb2.mono hb1.size).trans (hb3.mono (Nat.le_trans hb1.size hb2.size)))).mono hl.size)⟩
      · go_wp2_with (first
          | (have HA := HD1; go_at_call 51; refine (HA.out).mono ?_; clear HD1 HA; rintro e w1 ⟨rfl, hb1⟩; have c3 := Below.get hb1 c3; have c4 := Below.get hb1 c4; have k1 := ha.below hb1; have k2 := hb.below hb1)
          | (go_at_call 51; refine (HD2.out _ (htW.below hb1)).mono ?_; rintro e w2 ⟨rfl, hb2⟩; have k3 := k1.below hb2; have k4 := k2.below hb2)
          | (go_at_call 52; refine (HC.out _).mono ?_; rintro e w3 ⟨rfl, hb3⟩; have k5 := k3.below hb3; have k6 := k4.below hb3; have c5 := k5.c00; have c6 := k5.c01; have c7 := k6.c00; have c8 := k6.c01; have f1 := k5.f0; have f2 := k6.f0))
        refine ⟨rfl, .int .i64 (cmpQ n1 d1 n2 d2), by simp [results, Tryz.f17, go_sem] <;> omega, rfl, hl.trans ((hb1.trans ((hb2.mono hb1.size).trans (hb3.mono (Nat.le_trans hb1.size hb2.size)))).mono hl.size)⟩
    · rcases hs with rfl | rfl
      · go_wp2_with (first
          | (have HA := HD1; go_at_call 51; refine (HA.out).mono ?_; clear HD1 HA; rintro e w1 ⟨rfl, hb1⟩; have c3 := Below.get hb1 c3; have c4 := Below.get hb1 c4; have k1 := ha.below hb1; have k2 := hb.below hb1)
          | (go_at_call 51; refine (HD2.out _ (htW.below hb1)).mono ?_; rintro e w2 ⟨rfl, hb2⟩; have k3 := k1.below hb2; have k4 := k2.below hb2)
          | (go_at_call 52; refine (HC.out _).mono ?_; rintro e w3 ⟨rfl, hb3⟩; have k5 := k3.below hb3; have k6 := k4.below hb3; have c5 := k5.c00; have c6 := k5.c01; have c7 := k6.c00; have c8 := k6.c01; have f1 := k5.f0; have f2 := k6.f0))
        refine ⟨rfl, .int .i64 (cmpQ n1 d1 n2 d2), by simp [results, Tryz.f17, go_sem] <;> omega, rfl, hl.trans ((hb1.trans ((hb2.mono hb1.size).trans (hb3.mono (Nat.le_trans hb1.size hb2.size)))).mono hl.size)⟩
      · go_wp2_with (first
          | (have HA := HD1; go_at_call 51; refine (HA.out).mono ?_; clear HD1 HA; rintro e w1 ⟨rfl, hb1⟩; have c3 := Below.get hb1 c3; have c4 := Below.get hb1 c4; have k1 := ha.below hb1; have k2 := hb.below hb1)
          | (go_at_call 51; refine (HD2.out _ (htW.below hb1)).mono ?_; rintro e w2 ⟨rfl, hb2⟩; have k3 := k1.below hb2; have k4 := k2.below hb2)
          | (go_at_call 52; refine (HC.out _).mono ?_; rintro e w3 ⟨rfl, hb3⟩; have k5 := k3.below hb3; have k6 := k4.below hb3; have c5 := k5.c00; have c6 := k5.c01; have c7 := k6.c00; have c8 := k6.c01; have f1 := k5.f0; have f2 := k6.f0))
        refine ⟨rfl, .int .i64 (cmpQ n1 d1 n2 d2), by simp [results, Tryz.f17, go_sem] <;> omega, rfl, hl.trans ((hb1.trans ((hb2.mono hb1.size).trans (hb3.mono (Nat.le_trans hb1.size hb2.size)))).mono hl.size)⟩
    · rcases hs with rfl | rfl
      · go_wp2_with (first
          | (have HA := HD1; go_at_call 51; refine (HA.out).mono ?_; clear HD1 HA; rintro e w1 ⟨rfl, hb1⟩; have c3 := Below.get hb1 c3; have c4 := Below.get hb1 c4; have k1 := ha.below hb1; have k2 := hb.below hb1)
          | (go_at_call 51; refine (HD2.out _ (htW.below hb1)).mono ?_; rintro e w2 ⟨rfl, hb2⟩; have k3 := k1.below hb2; have k4 := k2.below hb2)
          | (go_at_call 52; refine (HC.out _).mono ?_; rintro e w3 ⟨rfl, hb3⟩; have k5 := k3.below hb3; have k6 := k4.below hb3; have c5 := k5.c00; have c6 := k5.c01; have c7 := k6.c00; have c8 := k6.c01; have f1 := k5.f0; have f2 := k6.f0))
        refine ⟨rfl, .int .i64 (cmpQ n1 d1 n2 d2), by simp [results, Tryz.f17, go_sem] <;> omega, rfl, hl.trans ((hb1.trans ((hb2.mono hb1.size).trans (hb3.mono (Nat.le_trans hb1.size hb2.size)))).mono hl.size)⟩
      · go_wp2_with (first
          | (have HA := HD1; go_at_call 51; refine (HA.out).mono ?_; clear HD1 HA; rintro e w1 ⟨rfl, hb1⟩; have c3 := Below.get hb1 c3; have c4 := Below.get hb1 c4; have k1 := ha.below hb1; have k2 := hb.below hb1)
          | (go_at_call 51; refine (HD2.out _ (htW.below hb1)).mono ?_; rintro e w2 ⟨rfl, hb2⟩; have k3 := k1.below hb2; have k4 := k2.below hb2)
          | (go_at_call 52; refine (HC.out _).mono ?_; rintro e w3 ⟨rfl, hb3⟩; have k5 := k3.below hb3; have k6 := k4.below hb3; have c5 := k5.c00; have c6 := k5.c01; have c7 := k6.c00; have c8 := k6.c01; have f1 := k5.f0; have f2 := k6.f0))
        refine ⟨rfl, .int .i64 (cmpQ n1 d1 n2 d2), by simp [results, Tryz.f17, go_sem] <;> omega, rfl, hl.trans ((hb1.trans ((hb2.mono hb1.size).trans (hb3.mono (Nat.le_trans hb1.size hb2.size)))).mono hl.size)⟩
    · rcases hs with rfl | rfl
      · go_wp2_with (first
          | (have HA := HD1; go_at_call 51; refine (HA.out).mono ?_; clear HD1 HA; rintro e w1 ⟨rfl, hb1⟩; have c3 := Below.get hb1 c3; have c4 := Below.get hb1 c4; have k1 := ha.below hb1; have k2 := hb.below hb1)
          | (go_at_call 51; refine (HD2.out _ (htW.below hb1)).mono ?_; rintro e w2 ⟨rfl, hb2⟩; have k3 := k1.below hb2; have k4 := k2.below hb2)
          | (go_at_call 52; refine (HC.out _).mono ?_; rintro e w3 ⟨rfl, hb3⟩; have k5 := k3.below hb3; have k6 := k4.below hb3; have c5 := k5.c00; have c6 := k5.c01; have c7 := k6.c00; have c8 := k6.c01; have f1 := k5.f0; have f2 := k6.f0))
        go_region
        all_goals go_wp2
        all_goals go_step3
        all_goals
          have hN := turn_next HI.out HT.out (hb1.trans ((hb2.mono hb1.size).trans (hb3.mono (Nat.le_trans hb1.size hb2.size)))) he
          exact ⟨rfl, ⟨y1, x1 % y1, y2, x2 % y2, _, _, _, _, _, _, _, _, _, _, _, _, _, _, _, _, _, _, _, _, _, _, _, _, _, _, _, _, _, _, _, _, _, _, _, _, _, _, _, _, _, _, _, _, _, _, _, _, _, _, _, _, _, _, _, _, _, _, _, _, _, _, _, _, _, _, _, _, _, hN.1, rfl⟩, hN.2⟩
      · go_wp2_with (first
          | (have HA := HD1; go_at_call 51; refine (HA.out).mono ?_; clear HD1 HA; rintro e w1 ⟨rfl, hb1⟩; have c3 := Below.get hb1 c3; have c4 := Below.get hb1 c4; have k1 := ha.below hb1; have k2 := hb.below hb1)
          | (go_at_call 51; refine (HD2.out _ (htW.below hb1)).mono ?_; rintro e w2 ⟨rfl, hb2⟩; have k3 := k1.below hb2; have k4 := k2.below hb2)
          | (go_at_call 52; refine (HC.out _).mono ?_; rintro e w3 ⟨rfl, hb3⟩; have k5 := k3.below hb3; have k6 := k4.below hb3; have c5 := k5.c00; have c6 := k5.c01; have c7 := k6.c00; have c8 := k6.c01; have f1 := k5.f0; have f2 := k6.f0))
        go_region
        all_goals go_wp2
        all_goals go_step3
        all_goals
          have hN := turn_next HI.out HT.out (hb1.trans ((hb2.mono hb1.size).trans (hb3.mono (Nat.le_trans hb1.size hb2.size)))) he
          exact ⟨rfl, ⟨y1, x1 % y1, y2, x2 % y2, _, _, _, _, _, _, _, _, _, _, _, _, _, _, _, _, _, _, _, _, _, _, _, _, _, _, _, _, _, _, _, _, _, _, _, _, _, _, _, _, _, _, _, _, _, _, _, _, _, _, _, _, _, _, _, _, _, _, _, _, _, _, _, _, _, _, _, _, _, hN.1, rfl⟩, hN.2⟩
end Go.Proofs.YtppbhnhmaocdnaaGreatDoor
namespace Go.Proofs.YtppbhnhmaocdnaaGreatDoor
open Go.RowKit Go.Shelf

def IV (n1 d1 n2 d2 : Int) : Value := .agg #[.string (str n1), .string (str d1), .string (str n2), .string (str d2)]

structure R4 (R : Nat) (W : World) (a b c d : Value) : Prop where
  c0 : W.cell? ⟨R, 0, none⟩ = some a
  c1 : W.cell? ⟨R, 1, none⟩ = some b
  c2 : W.cell? ⟨R, 2, none⟩ = some c
  c3 : W.cell? ⟨R, 3, none⟩ = some d
  f : ∀ j, W.frozen? ⟨R, j, none⟩ = false

theorem R4.new (W : World) (t : TypeId) (a b c d : Value) : R4 W.heap.size (W.alloc (.cells #[a, b, c, d] t)) a b c d :=
  ⟨cellAt _ _ _ 0 _ rfl, cellAt _ _ _ 1 _ rfl, cellAt _ _ _ 2 _ rfl, cellAt _ _ _ 3 _ rfl, fun j => frozenNew _ _ _ j _ rfl⟩
theorem R4.below {R : Nat} {W W' : World} {a b c d : Value} (h : R4 R W a b c d) (hb : Below W.heap.size W W') : R4 R W' a b c d :=
  ⟨Below.get hb h.c0, Below.get hb h.c1, Below.get hb h.c2, Below.get hb h.c3, fun j => (hb.frozen (p := ⟨R, j, none⟩) (ltOf h.c0)).trans (h.f j)⟩
theorem R4.belowB {R B : Nat} {W W' : World} {a b c d : Value} (h : R4 R W a b c d) (hb : Below B W W') (hR : R < B) : R4 R W' a b c d :=
  ⟨(hb.cell (p := ⟨R, 0, none⟩) hR).trans h.c0, (hb.cell (p := ⟨R, 1, none⟩) hR).trans h.c1, (hb.cell (p := ⟨R, 2, none⟩) hR).trans h.c2, (hb.cell (p := ⟨R, 3, none⟩) hR).trans h.c3, fun j => (hb.frozen (p := ⟨R, j, none⟩) hR).trans (h.f j)⟩
theorem R4.put {R : Nat} {W : World} {a b c d : Value} (h : R4 R W a b c d) (a' b' c' d' : Value) :
    R4 R ((((W.setCell ⟨R, 0, none⟩ a').setCell ⟨R, 1, none⟩ b').setCell ⟨R, 2, none⟩ c').setCell ⟨R, 3, none⟩ d') a' b' c' d' :=
  ⟨setOff (setOff (setOff (setSame h.c0 _) (by decide) _) (by decide) _) (by decide) _, setOff (setOff (setSame (setOff h.c1 (by decide) _) _) (by decide) _) (by decide) _,
    setOff (setSame (setOff (setOff h.c2 (by decide) _) (by decide) _) _) (by decide) _, setSame (setOff (setOff (setOff h.c3 (by decide) _) (by decide) _) (by decide) _) _,
    fun j => by rw [World.frozen?_setCell, World.frozen?_setCell, World.frozen?_setCell, World.frozen?_setCell]; exact h.f j⟩

theorem below_put4 {w W : World} (h : Below w.heap.size w W) (a b c d : Value) {R : Nat} (hR : w.heap.size ≤ R) : Below w.heap.size w ((((W.setCell ⟨R, 0, none⟩ a).setCell ⟨R, 1, none⟩ b).setCell ⟨R, 2, none⟩ c).setCell ⟨R, 3, none⟩ d) :=
  (((h.setCell (p := ⟨R, 0, none⟩) hR _).setCell (p := ⟨R, 1, none⟩) hR _).setCell (p := ⟨R, 2, none⟩) hR _).setCell (p := ⟨R, 3, none⟩) hR _

theorem rv_true {n d : Int} (w : World) (h : IsR n d) (ht : TabOf w) : Calls Tryz.prog 50 #[RV n d] w fun e w' => e = .returned (.bool true) ∧ Below w.heap.size w w' := by
  have := rvalid_in n d w h.1 h.2.1 ht
  rwa [h.2.2] at this

set_option maxRecDepth 100000 in
set_option maxHeartbeats 4000000 in
theorem evalid_in (n1 d1 n2 d2 : Int) (w : World) (h1 : IsR n1 d1) (h2 : IsR n2 d2) (ht : TabOf w) :
    Calls Tryz.prog 67 #[IV n1 d1 n2 d2] w fun e w' => e = .returned (.bool (decide (cmpQ n1 d1 n2 d2 ≤ 0))) ∧ Below w.heap.size w w' := by
  have HV1 := fun W h => rv_true W h1 h
  have HV2 := fun W h => rv_true W h2 h
  have HC := fun W h => rcmp_in n1 d1 n2 d2 W h1 h2 h
  unfold RV at HV1 HV2 HC
  unfold IV
  generalize cmpQ n1 d1 n2 d2 = cc at *
  clear h1 h2
  generalize str n1 = s1 at *
  generalize str d1 = t1 at *
  generalize str n2 = s2 at *
  generalize str d2 = t2 at *
  have HV1 := Lib.hid HV1
  have HV2 := Lib.hid HV2
  have HC := Lib.hid HC
  have bn := belowNew w (.cells #[.string s1, .string t1, .string s2, .string t2] 32)
  have k0 := R4.new w 32 (.string s1) (.string t1) (.string s2) (.string t2)
  have c0 := k0.c0
  have c1 := k0.c1
  have c2 := k0.c2
  have c3 := k0.c3
  go_enter Tryz.func67, Tryz.ntmps67
  go_wp2_with (first
    | (have HA := HV1; go_at_call 50; refine (HA.out _ (ht.below bn)).mono ?_; clear HV1 HA; rintro e w1 ⟨rfl, hb1⟩; have k1 := k0.below hb1; have c0 := k1.c0; have c1 := k1.c1; have c2 := k1.c2; have c3 := k1.c3; have b1 := bn.trans (hb1.mono bn.size))
    | (have HA := HV2; go_at_call 50; refine (HA.out _ (ht.below b1)).mono ?_; clear HV2 HA; rintro e w2 ⟨rfl, hb2⟩; have k2 := k1.below hb2; have c0 := k2.c0; have c1 := k2.c1; have c2 := k2.c2; have c3 := k2.c3; have b2 := b1.trans (hb2.mono b1.size))
    | (go_at_call 17; refine (HC.out _ (ht.below b2)).mono ?_; rintro e w3 ⟨rfl, hb3⟩))
  go_ret
  exact ⟨rfl, b2.trans (hb3.mono b2.size)⟩
end Go.Proofs.YtppbhnhmaocdnaaGreatDoor
