/- plus, minus and by of package integer: the groups of the sum, the difference and the product with a group. -/
import Derived.Test.YtppbhnhmaocdnaaGreatDoorB09
import Derived.Test.YtppbhnhmaocdnaaGreatDoorB08
import Derived.Deep.QuietTactic
import Derived.BigQuiet
import Derived.Shelf.Abstract
import Derived.Outline
set_option linter.unusedVariables false
set_option linter.unusedSimpArgs false
namespace Go.Proofs.YtppbhnhmaocdnaaGreatDoor
open Go.RowKit Go.Shelf

/-! ### values -/

theorem valI_add (f g : Nat → Int) (n : Nat) : valI (fun i => f i + g i) n = valI f n + valI g n := by
  induction n with
  | zero => rfl
  | succ n ih => simp only [valI, ih, Int.add_mul]; omega
theorem valI_sub (f g : Nat → Int) (n : Nat) : valI (fun i => f i - g i) n = valI f n - valI g n := by
  induction n with
  | zero => rfl
  | succ n ih => simp only [valI, ih, Int.sub_mul]; omega
theorem valI_mul (f : Nat → Int) (c : Int) (n : Nat) : valI (fun i => f i * c) n = valI f n * c := by
  induction n with
  | zero => simp [valI]
  | succ n ih =>
    simp only [valI, ih, Int.add_mul]
    rw [Int.mul_right_comm]

theorem valI_digs (a n : Nat) (h : (digs a).length ≤ n) : valI (fun i => (((digs a)[i]?.getD 0 : Nat) : Int)) n = a := by
  have key : ∀ (l : List Nat) (n : Nat), l.length ≤ n → valI (fun i => ((l[i]?.getD 0 : Nat) : Int)) n = (ofD l : Nat) := by
    intro l
    induction l with
    | nil =>
      intro n _
      have : ∀ n, valI (fun i => ((([] : List Nat)[i]?.getD 0 : Nat) : Int)) n = 0 := by
        intro n
        induction n with
        | zero => rfl
        | succ n ih => rw [valI, ih]; simp
      rw [this]; rfl
    | cons d r ih =>
      intro n hn
      have shift : ∀ n, valI (fun i => (((d :: r)[i]?.getD 0 : Nat) : Int)) (n + 1) = d + 10000 * valI (fun i => ((r[i]?.getD 0 : Nat) : Int)) n := by
        intro n
        induction n with
        | zero => simp [valI]
        | succ n ih2 =>
          rw [valI, ih2]
          simp only [List.getElem?_cons_succ, valI, Int.pow_succ]
          generalize valI (fun i => ((r[i]?.getD 0 : Nat) : Int)) n = A
          generalize ((r[n]?.getD 0 : Nat) : Int) = B
          generalize (10000 : Int) ^ n = p
          grind
      obtain ⟨m, rfl⟩ : ∃ m, n = m + 1 := ⟨n - 1, by simp at hn; omega⟩
      rw [shift, ih m (by simpa using hn)]
      simp [ofD]
  rw [key _ n h, ofD_digs]

theorem digs_at (a i : Nat) : (digs a)[i]?.getD 0 < 10000 := by
  rcases Nat.lt_or_ge i (digs a).length with h | h
  · rw [List.getElem?_eq_getElem h]
    exact digs_small a _ (List.getElem_mem h)
  · rw [List.getElem?_eq_none h]; simp
theorem digs_past (a i : Nat) (h : (digs a).length ≤ i) : (digs a)[i]?.getD 0 = 0 := by rw [List.getElem?_eq_none h]; rfl

theorem carry_nonneg (f : Nat → Int) (hb : ∀ i, -9999 ≤ f i ∧ f i ≤ 99980001) (n : Nat) (h : 0 ≤ valI f n) : 0 ≤ carryAt f n := by
  have h1 := outs_val f hb n
  have h2 := ofD_lt (outs f n) (outs_small f hb n)
  rw [outs_length] at h2
  have h3 : ((ofD (outs f n) : Nat) : Int) < 10000 ^ n := by
    have := Int.ofNat_lt.2 h2
    simpa using this
  have h4 : (0 : Int) < 10000 ^ n := Int.pow_pos (by omega)
  rcases Int.lt_or_le (carryAt f n) 0 with h5 | h5
  · exfalso
    have h6 : carryAt f n * 10000 ^ n ≤ (-1) * 10000 ^ n := Int.mul_le_mul_of_nonneg_right (by omega) (Int.le_of_lt h4)
    omega
  · exact h5

theorem trim_of {l : List Nat} {x : Int} {a : Nat} (h1 : Small l) (h2 : (ofD l : Int) = x) (h3 : x = (a : Int)) : trimL l = digs a := by
  rw [trimL_eq l h1]
  congr 1
  omega

/-! ### the closures -/

def RdAt (w : World) (v : Value) (i : Nat) (x : Nat) : Prop := i ≤ 1000000 ∧ ∃ xs, Reads w v xs ∧ xs.length ≤ 1000000 ∧ xs[i]?.getD 0 = x

theorem at_rd {v : Value} {i x n : Nat} {w : World} (h : RdAt w v i x) :
    Calls Tryz.prog 139 #[v, .int .i64 i] (w.drewN n) fun e w' => e = .returned (.int .i64 (x : Int)) ∧ ∃ m, w' = w.drewN m := by
  obtain ⟨hi, xs, h1, h2, h3⟩ := h
  exact (at_in v xs i _ (h1.drewN n) h2 hi).mono fun _ _ ⟨e1, e2⟩ => ⟨by rw [e1, h3], n, e2.symm⟩

set_option maxRecDepth 100000 in
set_option maxHeartbeats 400000 in
theorem plus_clo (v u : Value) (xs ys : List Nat) (b1 b2 i : Nat) (w : World) (h1 : Reads w v xs) (h2 : Reads w u ys) (l1 : xs.length ≤ 100000) (l2 : ys.length ≤ 100000) (hi : i ≤ 100000)
    (c1 : w.cell? ⟨b1, 0, none⟩ = some v) (c2 : w.cell? ⟨b2, 0, none⟩ = some u) (d1 : ∀ j : Nat, xs[j]?.getD 0 < 10000) (d2 : ∀ j : Nat, ys[j]?.getD 0 < 10000) :
    Calls Tryz.prog 138 (#[.int .i64 i] ++ #[.pointer (some ⟨b1, 0, none⟩), .pointer (some ⟨b2, 0, none⟩)]) w fun e w' =>
      e = .returned (.int .i64 (((xs[i]?.getD 0 : Nat) : Int) + ((ys[i]?.getD 0 : Nat) : Int))) ∧ ∃ q, w' = w.drewN q := by
  have r1 : RdAt w v i (xs[i]?.getD 0) := ⟨by omega, xs, h1, by omega, rfl⟩
  have r2 : RdAt w u i (ys[i]?.getD 0) := ⟨by omega, ys, h2, by omega, rfl⟩
  obtain ⟨a1, k1, rfl, _⟩ := h1.shape
  obtain ⟨a2, k2, rfl, _⟩ := h2.shape
  have e1 := d1 i
  have e2 := d2 i
  clear d1 d2 h1 h2
  generalize xs[i]?.getD 0 = x at *
  generalize ys[i]?.getD 0 = y at *
  simp only [List.append_toArray, List.cons_append, List.nil_append]
  go_enter Tryz.func138, Tryz.ntmps138
  go_wp2_with fail
  go_quiet ((go_at_call 139; exact at_rd (by assumption)))
  go_wp2
  go_ret
  exact ⟨rfl, _, rfl⟩

set_option maxRecDepth 100000 in
set_option maxHeartbeats 400000 in
theorem minus_clo (v u : Value) (xs ys : List Nat) (b1 b2 i : Nat) (w : World) (h1 : Reads w v xs) (h2 : Reads w u ys) (l1 : xs.length ≤ 100000) (l2 : ys.length ≤ 100000) (hi : i ≤ 100000)
    (c1 : w.cell? ⟨b1, 0, none⟩ = some v) (c2 : w.cell? ⟨b2, 0, none⟩ = some u) (d1 : ∀ j : Nat, xs[j]?.getD 0 < 10000) (d2 : ∀ j : Nat, ys[j]?.getD 0 < 10000) :
    Calls Tryz.prog 140 (#[.int .i64 i] ++ #[.pointer (some ⟨b1, 0, none⟩), .pointer (some ⟨b2, 0, none⟩)]) w fun e w' =>
      e = .returned (.int .i64 (((xs[i]?.getD 0 : Nat) : Int) - ((ys[i]?.getD 0 : Nat) : Int))) ∧ ∃ q, w' = w.drewN q := by
  have r1 : RdAt w v i (xs[i]?.getD 0) := ⟨by omega, xs, h1, by omega, rfl⟩
  have r2 : RdAt w u i (ys[i]?.getD 0) := ⟨by omega, ys, h2, by omega, rfl⟩
  obtain ⟨a1, k1, rfl, _⟩ := h1.shape
  obtain ⟨a2, k2, rfl, _⟩ := h2.shape
  have e1 := d1 i
  have e2 := d2 i
  clear d1 d2 h1 h2
  generalize xs[i]?.getD 0 = x at *
  generalize ys[i]?.getD 0 = y at *
  simp only [List.append_toArray, List.cons_append, List.nil_append]
  go_enter Tryz.func140, Tryz.ntmps140
  go_wp2_with fail
  go_quiet ((go_at_call 139; exact at_rd (by assumption)))
  go_wp2
  go_ret
  exact ⟨rfl, _, rfl⟩

set_option maxRecDepth 100000 in
set_option maxHeartbeats 400000 in
theorem by_clo (v : Value) (xs : List Nat) (c : Nat) (b1 b2 i : Nat) (w : World) (h1 : Reads w v xs) (l1 : xs.length ≤ 100000) (hi : i ≤ 100000) (hc : c < 10000)
    (c1 : w.cell? ⟨b1, 0, none⟩ = some v) (c2 : w.cell? ⟨b2, 0, none⟩ = some (.int .i64 c)) (d1 : ∀ j : Nat, xs[j]?.getD 0 < 10000) :
    Calls Tryz.prog 163 (#[.int .i64 i] ++ #[.pointer (some ⟨b1, 0, none⟩), .pointer (some ⟨b2, 0, none⟩)]) w fun e w' =>
      e = .returned (.int .i64 (((xs[i]?.getD 0 : Nat) : Int) * (c : Int))) ∧ ∃ q, w' = w.drewN q := by
  have r1 : RdAt w v i (xs[i]?.getD 0) := ⟨by omega, xs, h1, by omega, rfl⟩
  obtain ⟨a1, k1, rfl, _⟩ := h1.shape
  have e1 := d1 i
  clear d1 h1
  generalize xs[i]?.getD 0 = x at *
  have hm : x * c ≤ 9999 * 9999 := Nat.mul_le_mul (by omega) (by omega)
  have hw : IntKind.i64.wrap ((x : Int) * (c : Int)) = (x : Int) * (c : Int) := by
    rw [← Int.natCast_mul]; exact IntWalk.i64_in _ (by omega)
  clear hm
  simp only [List.append_toArray, List.cons_append, List.nil_append]
  go_enter Tryz.func163, Tryz.ntmps163
  go_wp2_with fail
  go_quiet ((go_at_call 139; exact at_rd (by assumption)))
  go_wp2
  go_ret
  exact ⟨rfl, _, rfl⟩

/-! ### the functions -/

def NumPost (B : Nat) (w : World) (n : Nat) (e : Ending) (w' : World) : Prop := ∃ v, e = .returned v ∧ Reads w' v (digs n) ∧ From B v ∧ Below B w w'

set_option maxRecDepth 100000 in
set_option maxHeartbeats 400000 in
theorem plus_in (v u : Value) (a b : Nat) (w : World) (h1 : Reads w v (digs a)) (h2 : Reads w u (digs b)) (l1 : (digs a).length ≤ 10000) (l2 : (digs b).length ≤ 10000) :
    Calls Tryz.prog 95 #[v, u] w (NumPost w.heap.size w (a + b)) := by
  obtain ⟨a1, k1, rfl, _⟩ := h1.shape
  obtain ⟨a2, k2, rfl, _⟩ := h2.shape
  have hpost : ∀ (n : Nat), (digs a).length ≤ n → (digs b).length ≤ n → n ≤ 10000 → Calls Tryz.prog 137 #[.int .i64 n, .int .i64 0, .func (.func 138) #[] #[.pointer (some ⟨w.heap.size, 0, none⟩), .pointer (some ⟨w.heap.size + 1, 0, none⟩)]]
      ((w.alloc (.cells #[.slice a1 (digs a).length k1] 95)).alloc (.cells #[.slice a2 (digs b).length k2] 95)) fun e w' => ∃ v l, e = .returned v ∧ Reads w' v l ∧ l.length ≤ 10001 ∧ trimL l = digs (a + b) ∧ From w.heap.size v ∧ Below w.heap.size w w' := by
    intro n n1 n2 n3
    have hB : Below w.heap.size w ((w.alloc (.cells #[.slice a1 (digs a).length k1] 95)).alloc (.cells #[.slice a2 (digs b).length k2] 95)) := (belowNew w _).alloc (by simp) _
    have hfb : ∀ i : Nat, -9999 ≤ (((digs a)[i]?.getD 0 : Nat) : Int) + (((digs b)[i]?.getD 0 : Nat) : Int) ∧ (((digs a)[i]?.getD 0 : Nat) : Int) + (((digs b)[i]?.getD 0 : Nat) : Int) ≤ 99980001 := fun i => by
      have := digs_at a i; have := digs_at b i; omega
    have hval : valI (fun i => (((digs a)[i]?.getD 0 : Nat) : Int) + (((digs b)[i]?.getD 0 : Nat) : Int)) n = ((a + b : Nat) : Int) := by
      rw [valI_add, valI_digs a n n1, valI_digs b n n2]; simp
    refine (fold_any n 138 _ (fun i => (((digs a)[i]?.getD 0 : Nat) : Int) + (((digs b)[i]?.getD 0 : Nat) : Int)) _ (by omega) hfb ?_ ?_ (enters_of Tryz.func138 (by kernel_rfl) rfl) ?_).mono ?_
    · simp only [digs_past a n n1, digs_past b n n2]; rfl
    · exact carry_nonneg _ hfb n (by rw [hval]; omega)
    · intro i W hi hW
      have s1 := sizeNew w (.cells #[.slice a1 (digs a).length k1] 95)
      have s2 := sizeNew (w.alloc (.cells #[.slice a1 (digs a).length k1] 95)) (.cells #[.slice a2 (digs b).length k2] 95)
      have e1 : W.cell? ⟨w.heap.size, 0, none⟩ = some (.slice a1 (digs a).length k1) :=
        (hW.cell (p := ⟨w.heap.size, 0, none⟩) (by rw [s2, s1]; exact Nat.lt_succ_of_lt (Nat.lt_succ_self _))).trans (cellOld (by rw [s1]; exact Nat.lt_succ_self _) (cellAt w _ _ 0 _ rfl))
      have e2 : W.cell? ⟨w.heap.size + 1, 0, none⟩ = some (.slice a2 (digs b).length k2) :=
        (hW.cell (p := ⟨w.heap.size + 1, 0, none⟩) (by rw [s2, s1]; exact Nat.lt_succ_self _)).trans (cellAt _ _ _ 0 _ s1.symm)
      exact plus_clo _ _ (digs a) (digs b) _ _ i W ((h1.below hB).below hW) ((h2.below hB).below hW) (by omega) (by omega) (by omega) e1 e2 (digs_at a) (digs_at b)
    · rintro e w' ⟨v, l, rfl, hr, hs, hv, hl, hfr, hb⟩
      exact ⟨v, l, rfl, hr, by omega, trim_of hs hv hval, hfr.mono (by simp; omega), hB.trans (hb.mono (by simp; omega))⟩
  clear h1 h2
  have HP := Lib.hid hpost
  clear hpost
  go_enter Tryz.func95, Tryz.ntmps95
  go_wp2_with fail
  all_goals
    refine (HP.out _ (by omega) (by omega) (by omega)).mono ?_
    rintro e w1 ⟨v1, l, rfl, hr, hl, ht, hfr, hb⟩
    have HT := Lib.hid ht
    have HR := Lib.hid hr
    clear ht hr
    go_wp2_with fail
    refine (trimmed_in _ l _ HR.out (by omega)).mono ?_
    rintro e w2 ⟨v2, rfl, hr2, hfr2, rfl⟩
    have HF2 := Lib.hid (hfr2 _ hfr)
    clear hfr2 hfr
    rw [HT.out] at hr2
    have HR2 := Lib.hid hr2
    clear hr2
    go_wp2
    go_ret
    exact ⟨_, rfl, HR2.out, HF2.out, hb⟩
set_option maxRecDepth 100000 in
set_option maxHeartbeats 400000 in
theorem minus_in (v u : Value) (a b : Nat) (w : World) (h1 : Reads w v (digs a)) (h2 : Reads w u (digs b)) (l1 : (digs a).length ≤ 10000) (hle : b ≤ a) :
    Calls Tryz.prog 97 #[v, u] w (NumPost w.heap.size w (a - b)) := by
  obtain ⟨a1, k1, rfl, _⟩ := h1.shape
  obtain ⟨a2, k2, rfl, _⟩ := h2.shape
  have l2 : (digs b).length ≤ (digs a).length := by
    rw [digs_length_le_iff]
    exact Nat.lt_of_le_of_lt hle ((digs_length_le_iff a _).1 (Nat.le_refl _))
  have hpost : ∀ (n : Nat), (digs a).length ≤ n → (digs b).length ≤ n → n ≤ 10000 → Calls Tryz.prog 137 #[.int .i64 n, .int .i64 0, .func (.func 140) #[] #[.pointer (some ⟨w.heap.size, 0, none⟩), .pointer (some ⟨w.heap.size + 1, 0, none⟩)]]
      ((w.alloc (.cells #[.slice a1 (digs a).length k1] 95)).alloc (.cells #[.slice a2 (digs b).length k2] 95)) fun e w' => ∃ v l, e = .returned v ∧ Reads w' v l ∧ l.length ≤ 10001 ∧ trimL l = digs (a - b) ∧ From w.heap.size v ∧ Below w.heap.size w w' := by
    intro n n1 n2 n3
    have hB : Below w.heap.size w ((w.alloc (.cells #[.slice a1 (digs a).length k1] 95)).alloc (.cells #[.slice a2 (digs b).length k2] 95)) := (belowNew w _).alloc (by simp) _
    have hfb : ∀ i : Nat, -9999 ≤ (((digs a)[i]?.getD 0 : Nat) : Int) - (((digs b)[i]?.getD 0 : Nat) : Int) ∧ (((digs a)[i]?.getD 0 : Nat) : Int) - (((digs b)[i]?.getD 0 : Nat) : Int) ≤ 99980001 := fun i => by
      have := digs_at a i; have := digs_at b i; omega
    have hval : valI (fun i => (((digs a)[i]?.getD 0 : Nat) : Int) - (((digs b)[i]?.getD 0 : Nat) : Int)) n = ((a - b : Nat) : Int) := by
      rw [valI_sub, valI_digs a n n1, valI_digs b n n2]; omega
    refine (fold_any n 140 _ (fun i => (((digs a)[i]?.getD 0 : Nat) : Int) - (((digs b)[i]?.getD 0 : Nat) : Int)) _ (by omega) hfb ?_ ?_ (enters_of Tryz.func140 (by kernel_rfl) rfl) ?_).mono ?_
    · simp only [digs_past a n n1, digs_past b n n2]; rfl
    · exact carry_nonneg _ hfb n (by rw [hval]; omega)
    · intro i W hi hW
      have s1 := sizeNew w (.cells #[.slice a1 (digs a).length k1] 95)
      have s2 := sizeNew (w.alloc (.cells #[.slice a1 (digs a).length k1] 95)) (.cells #[.slice a2 (digs b).length k2] 95)
      have e1 : W.cell? ⟨w.heap.size, 0, none⟩ = some (.slice a1 (digs a).length k1) :=
        (hW.cell (p := ⟨w.heap.size, 0, none⟩) (by rw [s2, s1]; exact Nat.lt_succ_of_lt (Nat.lt_succ_self _))).trans (cellOld (by rw [s1]; exact Nat.lt_succ_self _) (cellAt w _ _ 0 _ rfl))
      have e2 : W.cell? ⟨w.heap.size + 1, 0, none⟩ = some (.slice a2 (digs b).length k2) :=
        (hW.cell (p := ⟨w.heap.size + 1, 0, none⟩) (by rw [s2, s1]; exact Nat.lt_succ_self _)).trans (cellAt _ _ _ 0 _ s1.symm)
      exact minus_clo _ _ (digs a) (digs b) _ _ i W ((h1.below hB).below hW) ((h2.below hB).below hW) (by omega) (by omega) (by omega) e1 e2 (digs_at a) (digs_at b)
    · rintro e w' ⟨v, l, rfl, hr, hs, hv, hl, hfr, hb⟩
      exact ⟨v, l, rfl, hr, by omega, trim_of hs hv hval, hfr.mono (by simp; omega), hB.trans (hb.mono (by simp; omega))⟩
  clear h1 h2
  have HP := Lib.hid hpost
  clear hpost
  go_enter Tryz.func97, Tryz.ntmps97
  go_wp2_with fail
  all_goals
    refine (HP.out _ (by omega) (by omega) (by omega)).mono ?_
    rintro e w1 ⟨v1, l, rfl, hr, hl, ht, hfr, hb⟩
    have HT := Lib.hid ht
    have HR := Lib.hid hr
    clear ht hr
    go_wp2_with fail
    refine (trimmed_in _ l _ HR.out (by omega)).mono ?_
    rintro e w2 ⟨v2, rfl, hr2, hfr2, rfl⟩
    have HF2 := Lib.hid (hfr2 _ hfr)
    clear hfr2 hfr
    rw [HT.out] at hr2
    have HR2 := Lib.hid hr2
    clear hr2
    go_wp2
    go_ret
    exact ⟨_, rfl, HR2.out, HF2.out, hb⟩
set_option maxRecDepth 100000 in
set_option maxHeartbeats 400000 in
theorem by_in (v : Value) (a c : Nat) (w : World) (h1 : Reads w v (digs a)) (l1 : (digs a).length ≤ 10000) (hc : c < 10000) :
    Calls Tryz.prog 134 #[v, .int .i64 c] w (NumPost w.heap.size w (a * c)) := by
  obtain ⟨a1, k1, rfl, _⟩ := h1.shape
  have hpost : ∀ (n : Nat), (digs a).length ≤ n → n ≤ 10000 → Calls Tryz.prog 137 #[.int .i64 n, .int .i64 0, .func (.func 163) #[] #[.pointer (some ⟨w.heap.size, 0, none⟩), .pointer (some ⟨w.heap.size + 1, 0, none⟩)]]
      ((w.alloc (.cells #[.slice a1 (digs a).length k1] 95)).alloc (.cells #[.int .i64 c] 3)) fun e w' => ∃ v l, e = .returned v ∧ Reads w' v l ∧ l.length ≤ 10001 ∧ trimL l = digs (a * c) ∧ From w.heap.size v ∧ Below w.heap.size w w' := by
    intro n n1 n3
    have hB : Below w.heap.size w ((w.alloc (.cells #[.slice a1 (digs a).length k1] 95)).alloc (.cells #[.int .i64 c] 3)) := (belowNew w _).alloc (by simp) _
    have hfb : ∀ i : Nat, -9999 ≤ (((digs a)[i]?.getD 0 : Nat) : Int) * (c : Int) ∧ (((digs a)[i]?.getD 0 : Nat) : Int) * (c : Int) ≤ 99980001 := fun i => by
      have h7 := digs_at a i; have h8 : (digs a)[i]?.getD 0 * c ≤ 9999 * 9999 := Nat.mul_le_mul (by omega) (by omega)
      rw [← Int.natCast_mul]; omega
    have hval : valI (fun i => (((digs a)[i]?.getD 0 : Nat) : Int) * (c : Int)) n = ((a * c : Nat) : Int) := by
      rw [valI_mul (fun i => (((digs a)[i]?.getD 0 : Nat) : Int)), valI_digs a n n1]; simp
    refine (fold_any n 163 _ (fun i => (((digs a)[i]?.getD 0 : Nat) : Int) * (c : Int)) _ (by omega) hfb ?_ ?_ (enters_of Tryz.func163 (by kernel_rfl) rfl) ?_).mono ?_
    · simp only [digs_past a n n1]; simp
    · exact carry_nonneg _ hfb n (by rw [hval]; exact Int.natCast_nonneg _)
    · intro i W hi hW
      have s1 := sizeNew w (.cells #[.slice a1 (digs a).length k1] 95)
      have s2 := sizeNew (w.alloc (.cells #[.slice a1 (digs a).length k1] 95)) (.cells #[.int .i64 c] 3)
      have e1 : W.cell? ⟨w.heap.size, 0, none⟩ = some (.slice a1 (digs a).length k1) :=
        (hW.cell (p := ⟨w.heap.size, 0, none⟩) (by rw [s2, s1]; exact Nat.lt_succ_of_lt (Nat.lt_succ_self _))).trans (cellOld (by rw [s1]; exact Nat.lt_succ_self _) (cellAt w _ _ 0 _ rfl))
      have e2 : W.cell? ⟨w.heap.size + 1, 0, none⟩ = some (.int .i64 c) :=
        (hW.cell (p := ⟨w.heap.size + 1, 0, none⟩) (by rw [s2, s1]; exact Nat.lt_succ_self _)).trans (cellAt _ _ _ 0 _ s1.symm)
      exact by_clo _ (digs a) c _ _ i W ((h1.below hB).below hW) (by omega) (by omega) hc e1 e2 (digs_at a)
    · rintro e w' ⟨v, l, rfl, hr, hs, hv, hl, hfr, hb⟩
      exact ⟨v, l, rfl, hr, by omega, trim_of hs hv hval, hfr.mono (by simp; omega), hB.trans (hb.mono (by simp; omega))⟩
  clear h1
  have HP := Lib.hid hpost
  clear hpost
  go_enter Tryz.func134, Tryz.ntmps134
  go_wp2_with fail
  all_goals
    refine (HP.out _ (by omega) (by omega)).mono ?_
    rintro e w1 ⟨v1, l, rfl, hr, hl, ht, hfr, hb⟩
    have HT := Lib.hid ht
    have HR := Lib.hid hr
    clear ht hr
    go_wp2_with fail
    refine (trimmed_in _ l _ HR.out (by omega)).mono ?_
    rintro e w2 ⟨v2, rfl, hr2, hfr2, rfl⟩
    have HF2 := Lib.hid (hfr2 _ hfr)
    clear hfr2 hfr
    rw [HT.out] at hr2
    have HR2 := Lib.hid hr2
    clear hr2
    go_wp2
    go_ret
    exact ⟨_, rfl, HR2.out, HF2.out, hb⟩
end Go.Proofs.YtppbhnhmaocdnaaGreatDoor
