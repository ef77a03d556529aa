/- Walks and lemmas: Integers as strings: sum, difference, product, comparison. Greatest common divisor; small constants. Quotient and remainder of integers as strings. Integer square roots. Comparison of integers as strings. Product of integers as strings. Fractions: validity. The work of a calculation with fractions, while nothing fails. A fraction in lowest terms. Checking fractions. Making fractions. Sums and products of fractions. Sums and differences of fractions. Fractions with few places. -/
import Derived.Test.YtppbhnhmaocdnaaGreatDoorB17
import Derived.Test.YtppbhnhmaocdnaaGreatDoorB18
import Derived.Deep.RegionHeld3
import Derived.Test.YtppbhnhmaocdnaaGreatDoorB02
set_option linter.unusedVariables false
set_option linter.unusedSimpArgs false
namespace Go.Proofs.YtppbhnhmaocdnaaGreatDoor
open Go.RowKit Go.Shelf

def OpPost (w : World) (n : Int) (e : Ending) (w' : World) : Prop :=
  e = .returned (.tuple #[.string (if n.natAbs < big then str n else ⟨#[]⟩), .int .i64 (if n.natAbs < big then 0 else 30)]) ∧ Below w.heap.size w w'

theorem sv_natAbs (p : Bool) (m : Nat) : (sv p m).natAbs = m := by cases p <;> simp [sv]

theorem OpPost.of {p : Bool} {m : Nat} {w : World} {e : Ending} {w' : World} (h : TextPost p m w e w') : OpPost w (sv p m) e w' := by
  unfold OpPost
  rw [sv_natAbs]
  exact h

def Res (n : Int) (S : ByteArray) (E : Int) : Prop := S = (if n.natAbs < big then str n else ⟨#[]⟩) ∧ E = (if n.natAbs < big then 0 else 30)

theorem text_res (p : Bool) (v : Value) (m : Nat) (n : Int) (w : World) (h1 : Reads w v (digs m)) (l1 : (digs m).length ≤ 4000) (ht : TabOf w) (hn : sv p m = n) :
    Calls Tryz.prog 80 #[.agg #[.bool p, v]] w fun e w' => ∃ S E, e = .returned (.tuple #[.string S, .int .i64 E]) ∧ Res n S E ∧ Below w.heap.size w w' :=
  (text_in p v m w h1 l1 ht).mono fun e w' h => by
    have h := OpPost.of h
    rw [hn] at h
    exact ⟨_, _, h.1, ⟨rfl, rfl⟩, h.2⟩

theorem OpPost.res {n : Int} {w w' : World} {S : ByteArray} {E : Int} (h : Res n S E) (hb : Below w.heap.size w w') : OpPost w n (.returned (.tuple #[.string S, .int .i64 E])) w' := ⟨by rw [h.1, h.2], hb⟩

theorem digs_big {m : Nat} (h : m < big) : (digs m).length ≤ 50 := by
  rw [digs_length_le_iff]
  have : big = 10000 ^ 50 := by rw [big_eq, show (10000 : Nat) = 10 ^ 4 from rfl, ← Nat.pow_mul]
  omega

structure Pair (w W : World) (a b : Nat) (n m : Int) (v u : Value) : Prop where
  t : TwoC w W (.bool (decide (n < 0))) v (.bool (decide (m < 0))) u
  r1 : Reads W v (digs n.natAbs)
  r2 : Reads W u (digs m.natAbs)

theorem digs_two {c : Nat} (h : c < big * big) : (digs c).length ≤ 100 := by
  rw [digs_length_le_iff]
  have : big * big = 10000 ^ 100 := by decide +kernel
  omega

theorem sv_bound {p : Bool} {c : Nat} {n m : Int} (h : sv p c = n + m) (hn : n.natAbs < big) (hm : m.natAbs < big) : (digs c).length ≤ 4000 := by
  have h1 := sv_natAbs p c
  have h2 : 2 ≤ big := by rw [big_eq]; exact Nat.le_trans (by decide) (Nat.pow_le_pow_right (n := 10) (by omega) (show 1 ≤ 200 by omega))
  have h3 : c < big * big := by
    have : big * 2 ≤ big * big := Nat.mul_le_mul_left _ h2
    omega
  have := digs_two h3
  omega

set_option maxRecDepth 100000 in
set_option maxHeartbeats 1000000 in
theorem add_in (n m : Int) (w : World) (hn : n.natAbs < big) (hm : m.natAbs < big) (ht : TabOf w) :
    Calls Tryz.prog 35 #[.string (str n), .string (str m)] w (OpPost w (n + m)) := by
  have HB := Lib.hid (both_ok n m w hn hm)
  have l1 := digs_big hn
  have l2 := digs_big hm
  have HS : Hid (sv (decide (n < 0)) n.natAbs + sv (decide (m < 0)) m.natAbs = n + m) := Lib.hid (by rw [sv_of, sv_of])
  have HBD := Lib.hid (fun p c h => sv_bound (p := p) (c := c) (n := n) (m := m) h hn hm)
  generalize str n = s at *
  generalize str m = t at *
  clear hn hm
  go_enter Tryz.func35, Tryz.ntmps35
  go_wp2_with (first
    | (go_at_call 78; refine HB.out.mono ?_; rintro e w1 ⟨v, u, rfl, hr1, hr2, hb1⟩; obtain ⟨a1, k1, rfl, _⟩ := hr1.shape; obtain ⟨a2, k2, rfl, _⟩ := hr2.shape; have t2 := TwoC.start w1 97 (.bool (decide (n < 0))) (.slice a1 (digs n.natAbs).length k1) (.bool (decide (m < 0))) (.slice a2 (digs m.natAbs).length k2); have c00 := t2.c00; have c01 := t2.c01; have c10 := t2.c10; have c11 := t2.c11; have r1 := hr1.below t2.b; have r2 := hr2.below t2.b; have tb := ht.below (hb1.trans (t2.b.mono hb1.size)))
    | (go_at_call 79; refine (splus_in _ _ _ _ _ _ _ r1 r2 (by omega) (by omega)).mono ?_; rintro e w2 ⟨p, z, c, rfl, hz, hc, _, hb2⟩; rw [HS.out] at hc)
    | (go_at_call 80; refine (text_res _ _ _ _ _ hz (HBD.out _ _ hc) (tb.below hb2) hc).mono ?_; rintro e w3 ⟨S, E, rfl, hres, hb3⟩))
  go_ret2
  exact OpPost.res hres (hb1.trans ((t2.b.trans ((hb2.mono t2.b.size).trans (hb3.mono (Nat.le_trans t2.b.size hb2.size)))).mono hb1.size))
theorem sv_not (m : Int) : sv (!decide (m < 0)) m.natAbs = -m := by
  unfold sv
  by_cases h : m < 0 <;> simp [h] <;> omega

set_option maxRecDepth 100000 in
set_option maxHeartbeats 1000000 in
theorem sub_in (n m : Int) (w : World) (hn : n.natAbs < big) (hm : m.natAbs < big) (ht : TabOf w) :
    Calls Tryz.prog 45 #[.string (str n), .string (str m)] w (OpPost w (n - m)) := by
  have HB := Lib.hid (both_ok n m w hn hm)
  have l1 := digs_big hn
  have l2 := digs_big hm
  have HS : Hid (sv (decide (n < 0)) n.natAbs + sv (!decide (m < 0)) m.natAbs = n - m) := Lib.hid (by rw [sv_not, sv_of]; omega)
  have HBD := Lib.hid (fun p c h => sv_bound (p := p) (c := c) (n := n) (m := -m) (by omega) hn (by omega))
  generalize str n = s at *
  generalize str m = t at *
  clear hn hm
  go_enter Tryz.func45, Tryz.ntmps45
  go_wp2_with (first
    | (go_at_call 78; refine HB.out.mono ?_; rintro e w1 ⟨v, u, rfl, hr1, hr2, hb1⟩; obtain ⟨a1, k1, rfl, _⟩ := hr1.shape; obtain ⟨a2, k2, rfl, _⟩ := hr2.shape; have t2 := TwoC.start w1 97 (.bool (decide (n < 0))) (.slice a1 (digs n.natAbs).length k1) (.bool (decide (m < 0))) (.slice a2 (digs m.natAbs).length k2); have c00 := t2.c00; have c01 := t2.c01; have c10 := t2.c10; have c11 := t2.c11; have t3 := TwoC.start w1 97 (.bool (decide (n < 0))) (.slice a1 (digs n.natAbs).length k1) (.bool (!decide (m < 0))) (.slice a2 (digs m.natAbs).length k2); have r1 := hr1.below t3.b; have r2 := hr2.below t3.b; clear t2; have t2 := t3; have tb := ht.below (hb1.trans (t2.b.mono hb1.size)))
    | (go_at_call 79; refine (splus_in _ _ _ _ _ _ _ r1 r2 (by omega) (by omega)).mono ?_; rintro e w2 ⟨p, z, c, rfl, hz, hc, _, hb2⟩; rw [HS.out] at hc)
    | (go_at_call 80; refine (text_res _ _ _ _ _ hz (HBD.out _ _ hc) (tb.below hb2) hc).mono ?_; rintro e w3 ⟨S, E, rfl, hres, hb3⟩))
  go_ret2
  exact OpPost.res hres (hb1.trans ((t2.b.trans ((hb2.mono t2.b.size).trans (hb3.mono (Nat.le_trans t2.b.size hb2.size)))).mono hb1.size))
end Go.Proofs.YtppbhnhmaocdnaaGreatDoor
namespace Go.Proofs.YtppbhnhmaocdnaaGreatDoor
open Go.RowKit Go.Shelf

theorem fromInt_in (n : Int) (w : World) (hn : n.natAbs ≤ 1000000000000000000) (ht : TabOf w) :
    Calls Tryz.prog 81 #[.int .i64 n] w fun e w' => e = .returned (.string (str n)) ∧ Below w.heap.size w w' := by
  have HI := Lib.hid (itoa_in n w hn ht)
  go_enter Tryz.func81, Tryz.ntmps81
  go_wp2_with (go_at_call 124; refine HI.out.mono ?_; rintro e w' ⟨rfl, hb⟩)
  go_ret
  exact ⟨rfl, hb⟩

theorem digs_lit {c : Nat} (h : c < 10000) (h0 : c ≠ 0) : digs c = [c] := by
  rw [digs_pos h0, Nat.mod_eq_of_lt h, Nat.div_eq_of_lt h, digs_zero]

theorem reads_lit {W : World} {B c : Nat} {t : TypeId} (hc : W.heap[B]? = some (.cells #[.int .i64 (c : Int)] t)) (h : c < 10000) (h0 : c ≠ 0) : Reads W (.slice (some ⟨B, 0, none⟩) 1 1) (digs c) := by
  rw [digs_lit h h0]
  refine .inr ⟨B, 0, 1, rfl, (Array.getElem?_eq_some_iff.1 hc).1, by simp, ?_⟩
  intro j hj
  simp at hj
  subst hj
  simp [World.cell?, hc]

theorem one_in (w : World) : Calls Tryz.prog 96 #[] w (NumPost w.heap.size w 1) := by
  have h := World.alloc_heap_new w (.cells #[.int .i64 1] 3)
  go_enter Tryz.func96, Tryz.ntmps96
  go_wp2
  go_ret
  refine ⟨_, rfl, reads_lit (c := 1) h (by omega) (by omega), ?_, belowNew _ _⟩
  rintro a n c e
  cases e
  exact Nat.le_refl _

theorem Reads.unique {W : World} {v : Value} {xs ys : List Nat} (h : Reads W v xs) (k : Reads W v ys) : xs = ys := by
  obtain ⟨a, c, e, _⟩ := h.shape
  obtain ⟨a', c', e', _⟩ := k.shape
  have hl : xs.length = ys.length := by rw [e] at e'; simp at e'; exact e'.2.1
  rcases h with ⟨e1, e2⟩ | ⟨b, off, cap, e1, _, _, h3⟩
  · subst e2; exact (List.length_eq_zero_iff.1 hl.symm).symm
  · rcases k with ⟨f1, f2⟩ | ⟨b', off', cap', f1, _, _, k3⟩
    · subst f2; exact List.length_eq_zero_iff.1 hl
    · rw [e1] at f1
      simp at f1
      obtain ⟨⟨rfl, rfl⟩, _, _⟩ := f1
      apply List.ext_getElem? 
      intro i
      rcases Nat.lt_or_ge i xs.length with hi | hi
      · have := (h3 i hi).symm.trans (k3 i (by omega))
        simp only [Option.some.injEq, Value.int.injEq, true_and] at this
        rw [List.getElem?_eq_getElem hi, List.getElem?_eq_getElem (by omega)] at *
        simp at this ⊢
        omega
      · rw [List.getElem?_eq_none hi, List.getElem?_eq_none (by omega)]

open Classical in
noncomputable def numOf (W : World) (v : Value) : Nat := if h : ∃ b, Reads W v (digs b) then h.choose else 0
theorem numOf_eq {W : World} {v : Value} {b : Nat} (h : Reads W v (digs b)) : numOf W v = b := by
  have hx : ∃ b, Reads W v (digs b) := ⟨b, h⟩
  unfold numOf
  rw [dif_pos hx]
  have := hx.choose_spec.unique h
  rw [← ofD_digs hx.choose, this, ofD_digs]

set_option maxRecDepth 100000 in
set_option maxHeartbeats 4000000 in
theorem gcd_in (n m : Int) (w : World) (hn : n.natAbs < big) (hm : m.natAbs < big) (ht : TabOf w) :
    Calls Tryz.prog 93 #[.string (str n), .string (str m)] w (OpPost w (Int.gcd n m)) := by
  have HB := Lib.hid (both_ok n m w hn hm)
  have l1 := digs_big hn
  have l2 := digs_big hm
  have hG : Int.gcd n m = Nat.gcd n.natAbs m.natAbs := rfl
  rw [hG]
  generalize str n = s at *
  generalize str m = t at *
  go_enter Tryz.func93, Tryz.ntmps93
  go_wp2_with (first
    | (go_at_call 78; refine HB.out.mono ?_; rintro e w1 ⟨v, u, rfl, hr1, hr2, hb1⟩; obtain ⟨a1, k1, rfl, _⟩ := hr1.shape; obtain ⟨a2, k2, rfl, _⟩ := hr2.shape; have t2 := TwoC.start w1 97 (.bool (decide (n < 0))) (.slice a1 (digs n.natAbs).length k1) (.bool (decide (m < 0))) (.slice a2 (digs m.natAbs).length k2); have c00 := t2.c00; have c01 := t2.c01; have c10 := t2.c10; have c11 := t2.c11; have r1 := hr1.below t2.b; have r2 := hr2.below t2.b; have tb := ht.below (hb1.trans (t2.b.mono hb1.size))))
  go_quiet (fail)
  go_wp2_with fail
  go_loopw [9, 10, 11, 12] (fun k l _ _ W => ∃ a b : Nat, Reads W k (digs a) ∧ Reads W l (digs b) ∧ Nat.gcd a b = Nat.gcd n.natAbs m.natAbs ∧ a < big ∧ b < big ∧ Below w.heap.size w W) (fun _ l _ _ W => numOf W l)
  case atStart =>
    exact ⟨n.natAbs, m.natAbs, r1.drewN _, r2.drewN _, rfl, hn, hm, Below.drewN' (hb1.trans (t2.b.mono hb1.size)) _⟩
  case round =>
    obtain ⟨a, b, ha, hb, hg, hab, hbb, hB⟩ := hrel
    have la := digs_big hab
    have lb := digs_big hbb
    obtain ⟨ak, ck, rfl, _⟩ := ha.shape
    obtain ⟨al, cl, rfl, _⟩ := hb.shape
    have HG := Lib.hid hg
    have hnum := numOf_eq hb
    clear hg hn hm
    rcases Nat.eq_zero_or_pos b with rfl | hb0
    · rw [digs_zero] at *
      have HGZ : Hid (sv false a = (Nat.gcd n.natAbs m.natAbs : Nat)) := Lib.hid (by rw [← HG.out, Nat.gcd_zero_right]; rfl)
      have HL : Hid ((digs a).length ≤ 4000) := Lib.hid (by omega)
      go_wp2_with (go_at_call 80; refine (text_res _ _ _ _ _ ha HL.out (ht.below hB) HGZ.out).mono ?_; rintro e w3 ⟨S, E, rfl, hres, hb3⟩)
      go_ret2
      exact OpPost.res hres (hB.trans (hb3.mono hB.size))
    · have hpos : 0 < (digs b).length := by
        rcases Nat.eq_zero_or_pos (digs b).length with h | h
        · have := digs_eq_nil.1 (List.length_eq_zero_iff.1 h); omega
        · exact h
      go_wp2_with (go_at_call 94; refine (over_in _ _ a b _ ha hb (by omega) (by omega) hb0).mono ?_; rintro e w3 ⟨q, r, rfl, hq, hr, _, _, hb3⟩)
      have hlt := Nat.mod_lt a hb0
      refine ⟨⟨b, a % b, hb.below hb3, hr, ?_, hbb, Nat.lt_trans hlt hbb, hB.trans (hb3.mono hB.size)⟩, ?_⟩
      · rw [← HG.out, Nat.gcd_comm a b, Nat.gcd_rec b a, Nat.gcd_comm]
      · rw [numOf_eq hr, hnum]; exact hlt
end Go.Proofs.YtppbhnhmaocdnaaGreatDoor
namespace Go.Proofs.YtppbhnhmaocdnaaGreatDoor
open Go.RowKit Go.Shelf

theorem div_unique {n m q r : Int} (hm : m ≠ 0) (h : q * m + r = n) (h0 : 0 ≤ r) (h1 : r < (m.natAbs : Int)) : n / m = q ∧ n % m = r := by
  rcases Int.lt_or_gt_of_ne hm with hlt | hgt
  · have h2 : n / (-m) = -q ∧ n % (-m) = r := by
      rw [Int.ediv_emod_unique (by omega)]
      refine ⟨?_, h0, by omega⟩
      rw [Int.neg_mul_neg, Int.mul_comm m q]; omega
    rw [Int.ediv_neg, Int.emod_neg] at h2
    omega
  · rw [Int.ediv_emod_unique hgt]
    refine ⟨?_, h0, by omega⟩
    rw [Int.mul_comm m q]; omega

theorem sgn_of (m : Int) : (decide (m < 0) = true ∧ m = -(m.natAbs : Int)) ∨ (decide (m < 0) = false ∧ m = (m.natAbs : Int)) := by
  by_cases h : m < 0
  · left; simp [h]; omega
  · right; simp [h]; omega

theorem div_pos {n m : Int} (hm : m ≠ 0) (hn : ¬ n < 0) : sv (false != decide (m < 0)) (n.natAbs / m.natAbs) = n / m ∧ ((n.natAbs % m.natAbs : Nat) : Int) = n % m := by
  have hb : 0 < m.natAbs := by omega
  have e := Nat.div_add_mod n.natAbs m.natAbs
  have h1 := Nat.mod_lt n.natAbs hb
  generalize n.natAbs / m.natAbs = Q at *
  generalize n.natAbs % m.natAbs = R at *
  have := div_unique (q := sv (false != decide (m < 0)) Q) (r := (R : Int)) (n := n) hm ?_ (by omega) (by omega)
  · exact ⟨this.1.symm, this.2.symm⟩
  · have hn' : n = (m.natAbs : Int) * Q + R := by rw [← Int.natCast_mul]; omega
    rcases sgn_of m with ⟨h2, h3⟩ | ⟨h2, h3⟩ <;> rw [h2] <;> simp only [sv, Bool.false_bne, if_true, Bool.false_eq_true, if_false] <;> generalize m.natAbs = b at * <;> subst h3 <;> rw [hn'] <;> grind

theorem div_neg0 {n m : Int} (hm : m ≠ 0) (hn : n < 0) (h0 : n.natAbs % m.natAbs = 0) : sv (true != decide (m < 0)) (n.natAbs / m.natAbs) = n / m ∧ (0 : Int) = n % m := by
  have e := Nat.div_add_mod n.natAbs m.natAbs
  rw [h0] at e
  generalize n.natAbs / m.natAbs = Q at *
  have := div_unique (q := sv (true != decide (m < 0)) Q) (r := 0) (n := n) hm ?_ (by omega) (by omega)
  · exact ⟨this.1.symm, this.2.symm⟩
  · have hn' : n = -((m.natAbs : Int) * Q) := by rw [← Int.natCast_mul]; omega
    rcases sgn_of m with ⟨h2, h3⟩ | ⟨h2, h3⟩ <;> rw [h2] <;> simp only [sv, Bool.true_bne, Bool.not_true, Bool.not_false, if_true, Bool.false_eq_true, if_false] <;> generalize m.natAbs = b at * <;> subst h3 <;> rw [hn'] <;> grind

theorem div_neg1 {n m : Int} (hm : m ≠ 0) (hn : n < 0) (h0 : 0 < n.natAbs % m.natAbs) : sv (true != decide (m < 0)) (n.natAbs / m.natAbs + 1) = n / m ∧ ((m.natAbs - n.natAbs % m.natAbs : Nat) : Int) = n % m := by
  have hb : 0 < m.natAbs := by omega
  have e := Nat.div_add_mod n.natAbs m.natAbs
  have h1 := Nat.mod_lt n.natAbs hb
  generalize n.natAbs / m.natAbs = Q at *
  generalize n.natAbs % m.natAbs = R at *
  have := div_unique (q := sv (true != decide (m < 0)) (Q + 1)) (r := ((m.natAbs - R : Nat) : Int)) (n := n) hm ?_ (by omega) (by omega)
  · exact ⟨this.1.symm, this.2.symm⟩
  · have hn' : n = -((m.natAbs : Int) * Q + R) := by rw [← Int.natCast_mul]; omega
    have h5 : ((m.natAbs - R : Nat) : Int) = (m.natAbs : Int) - R := by omega
    rw [h5]
    rcases sgn_of m with ⟨h2, h3⟩ | ⟨h2, h3⟩ <;> rw [h2] <;> simp only [sv, Bool.true_bne, Bool.not_true, Bool.not_false, if_true, Bool.false_eq_true, if_false] <;> generalize m.natAbs = b at * <;> subst h3 <;> rw [hn'] <;> grind

def DivPost (w : World) (n m : Int) (e : Ending) (w' : World) : Prop :=
  e = .returned (.tuple #[.string (str (n / m)), .string (str (n % m)), .int .i64 0]) ∧ Below w.heap.size w w'

theorem div_small {n m : Int} (hm : m ≠ 0) (hn : n.natAbs < big) (hmb : m.natAbs < big) : (n / m).natAbs < big ∧ (n % m).natAbs < big := by
  constructor
  · have : (n / m).natAbs ≤ n.natAbs := Int.natAbs_ediv_le_natAbs n m
    omega
  · have h0 := Int.emod_nonneg n hm
    have h1 := Int.emod_lt n hm
    omega

theorem Res.good {n : Int} {S : ByteArray} {E : Int} (h : Res n S E) (hb : n.natAbs < big) : S = str n ∧ E = 0 := by
  obtain ⟨h1, h2⟩ := h
  rw [if_pos hb] at h1 h2
  exact ⟨h1, h2⟩

theorem digs_small_len {c : Nat} (h : c < big) : (digs c).length ≤ 4000 := by have := digs_big h; omega

set_option maxRecDepth 100000 in
set_option maxHeartbeats 4000000 in
theorem divp_in (n m : Int) (w : World) (hn : n.natAbs < big) (hm : m.natAbs < big) (ht : TabOf w) (hm0 : m ≠ 0) (hneg : ¬ n < 0) :
    Calls Tryz.prog 51 #[.string (str n), .string (str m)] w (DivPost w n m) := by
  have HB := both_ok n m w hn hm
  unfold BothPost at HB
  have l1 := digs_big hn
  have l2 := digs_big hm
  have hsm := div_small hm0 hn hm
  have hb0 : 0 < m.natAbs := by omega
  have hlm : 0 < (digs m.natAbs).length := by
    rcases Nat.eq_zero_or_pos (digs m.natAbs).length with h | h
    · have := digs_eq_nil.1 (List.length_eq_zero_iff.1 h); omega
    · exact h
  have hE : sv (decide (m < 0)) (n.natAbs / m.natAbs) = n / m ∧ sv false (n.natAbs % m.natAbs) = n % m := by have := div_pos hm0 hneg; rw [Bool.false_bne] at this; exact this
  have HLQ : Hid ((digs (n.natAbs / m.natAbs)).length ≤ 4000) := Lib.hid (digs_small_len (by have := Nat.div_le_self n.natAbs m.natAbs; omega))
  have HLR : Hid ((digs (n.natAbs % m.natAbs)).length ≤ 4000) := Lib.hid (digs_small_len (by have := Nat.mod_le n.natAbs m.natAbs; omega))
  have HQ : Hid (∃ Q R, n.natAbs / m.natAbs = Q ∧ n.natAbs % m.natAbs = R) := Lib.hid ⟨_, _, rfl, rfl⟩
  obtain ⟨Q, R, hQ, hR⟩ := HQ.out
  clear HQ
  rw [hQ] at hE HLQ
  rw [hR] at hE HLR
  have HQ := Lib.hid hQ
  have HR := Lib.hid hR
  clear hQ hR
  have HE1 := Lib.hid hE.1
  have HE2 := Lib.hid hE.2
  have HSM := Lib.hid hsm
  have HP : Hid (decide (n < 0) = false) := Lib.hid (by simp; omega)
  rw [HP.out] at HB
  clear HP hE hsm hn hm
  generalize str n = s at *
  generalize str m = t at *
  generalize decide (m < 0) = q at *
  have HB := Lib.hid HB
  go_enter Tryz.func51, Tryz.ntmps51
  go_wp2_with (first
    | (go_at_call 78; refine HB.out.mono ?_; rintro e w1 ⟨v, u, rfl, hr1, hr2, hb1⟩; obtain ⟨a1, k1, rfl, _⟩ := hr1.shape; obtain ⟨a2, k2, rfl, _⟩ := hr2.shape; have t2 := TwoC.start w1 97 (.bool false) (.slice a1 (digs n.natAbs).length k1) (.bool q) (.slice a2 (digs m.natAbs).length k2); have c00 := t2.c00; have c01 := t2.c01; have c10 := t2.c10; have c11 := t2.c11; have r1 := hr1.below t2.b; have r2 := hr2.below t2.b; have tb := ht.below (hb1.trans (t2.b.mono hb1.size)))
    | (go_at_call 94; refine (over_in _ _ n.natAbs m.natAbs _ r1 r2 (by omega) (by omega) hb0).mono ?_; rintro e w3 ⟨v3, u3, rfl, hq, hr, _, _, hb3⟩; rw [HQ.out] at hq; rw [HR.out] at hr; obtain ⟨a3, k3, rfl, _⟩ := hq.shape; obtain ⟨a4, k4, rfl, _⟩ := hr.shape; have t3 := t2.below hb3; have d00 := t3.c00; have d01 := t3.c01; have d10 := t3.c10; have d11 := t3.c11; have hB3 := hb1.trans ((t2.b.trans (hb3.mono t2.b.size)).mono hb1.size); have tb3 := ht.below hB3; have hB := hB3; have hrr := hr)
    | (have HE1' := HE1; go_at_call 80; refine (text_res _ _ _ _ _ hq HLQ.out (ht.below hB) HE1'.out).mono ?_; clear HE1 HE1'; rintro e w5 ⟨S, E, rfl, hres, hb5⟩; obtain ⟨hS1, rfl⟩ := Res.good hres HSM.out.1; have HS1 := Lib.hid hS1; clear hS1 hres; have hB5 := hB.trans (hb5.mono hB.size))
    | (go_at_call 80; refine (text_res _ _ _ _ _ (Reads.below hrr hb5) HLR.out (ht.below hB5) HE2.out).mono ?_; rintro e w6 ⟨S2, E, rfl, hres, hb6⟩; obtain ⟨hS2, rfl⟩ := Res.good hres HSM.out.2; have HS2 := Lib.hid hS2; clear hS2 hres; have hB6 := hB5.trans (hb6.mono hB5.size)))
  refine bodyPost_ret_by (v := .tuple #[.string S, .string S2, .int .i64 0]) (by simp [results, Tryz.f51, go_sem]) rfl ⟨by rw [HS1.out, HS2.out], hB6⟩
set_option maxRecDepth 100000 in
set_option maxHeartbeats 4000000 in
theorem divz_in (n m : Int) (w : World) (hn : n.natAbs < big) (hm : m.natAbs < big) (ht : TabOf w) (hm0 : m ≠ 0) (hneg : n < 0) (hz : n.natAbs % m.natAbs = 0) :
    Calls Tryz.prog 51 #[.string (str n), .string (str m)] w (DivPost w n m) := by
  have HB := both_ok n m w hn hm
  unfold BothPost at HB
  have l1 := digs_big hn
  have l2 := digs_big hm
  have hsm := div_small hm0 hn hm
  have hb0 : 0 < m.natAbs := by omega
  have hlm : 0 < (digs m.natAbs).length := by
    rcases Nat.eq_zero_or_pos (digs m.natAbs).length with h | h
    · have := digs_eq_nil.1 (List.length_eq_zero_iff.1 h); omega
    · exact h
  have hE : sv (!decide (m < 0)) (n.natAbs / m.natAbs) = n / m ∧ sv false (n.natAbs % m.natAbs) = n % m := by have := div_neg0 hm0 hneg hz; rw [Bool.true_bne] at this; rw [hz]; exact this
  have HLQ : Hid ((digs (n.natAbs / m.natAbs)).length ≤ 4000) := Lib.hid (digs_small_len (by have := Nat.div_le_self n.natAbs m.natAbs; omega))
  have HLR : Hid ((digs (n.natAbs % m.natAbs)).length ≤ 4000) := Lib.hid (digs_small_len (by have := Nat.mod_le n.natAbs m.natAbs; omega))
  have HQ : Hid (∃ Q R, n.natAbs / m.natAbs = Q ∧ n.natAbs % m.natAbs = R) := Lib.hid ⟨_, _, rfl, rfl⟩
  obtain ⟨Q, R, hQ, hR⟩ := HQ.out
  clear HQ
  rw [hQ] at hE HLQ
  rw [hR] at hE HLR
  have HQ := Lib.hid hQ
  have HR := Lib.hid hR
  rw [hz] at hR
  subst hR
  rw [digs_zero] at HLR
  clear hQ
  have HE1 := Lib.hid hE.1
  have HE2 := Lib.hid hE.2
  have HSM := Lib.hid hsm
  have HP : Hid (decide (n < 0) = true) := Lib.hid (by simp; omega)
  rw [HP.out] at HB
  clear HP hE hsm hn hm
  generalize str n = s at *
  generalize str m = t at *
  generalize decide (m < 0) = q at *
  have HB := Lib.hid HB
  go_enter Tryz.func51, Tryz.ntmps51
  go_wp2_with (first
    | (go_at_call 78; refine HB.out.mono ?_; rintro e w1 ⟨v, u, rfl, hr1, hr2, hb1⟩; obtain ⟨a1, k1, rfl, _⟩ := hr1.shape; obtain ⟨a2, k2, rfl, _⟩ := hr2.shape; have t2 := TwoC.start w1 97 (.bool true) (.slice a1 (digs n.natAbs).length k1) (.bool q) (.slice a2 (digs m.natAbs).length k2); have c00 := t2.c00; have c01 := t2.c01; have c10 := t2.c10; have c11 := t2.c11; have r1 := hr1.below t2.b; have r2 := hr2.below t2.b; have tb := ht.below (hb1.trans (t2.b.mono hb1.size)))
    | (go_at_call 94; refine (over_in _ _ n.natAbs m.natAbs _ r1 r2 (by omega) (by omega) hb0).mono ?_; rintro e w3 ⟨v3, u3, rfl, hq, hr, _, _, hb3⟩; rw [HQ.out] at hq; rw [HR.out, digs_zero] at hr; obtain ⟨a3, k3, rfl, _⟩ := hq.shape; obtain ⟨a4, k4, rfl, _⟩ := hr.shape; have t3 := t2.below hb3; have d00 := t3.c00; have d01 := t3.c01; have d10 := t3.c10; have d11 := t3.c11; have hB3 := hb1.trans ((t2.b.trans (hb3.mono t2.b.size)).mono hb1.size); have tb3 := ht.below hB3; have hB := hB3; have hrr := hr)
    | (have HE1' := HE1; go_at_call 80; refine (text_res _ _ _ _ _ hq HLQ.out (ht.below hB) HE1'.out).mono ?_; clear HE1 HE1'; rintro e w5 ⟨S, E, rfl, hres, hb5⟩; obtain ⟨hS1, rfl⟩ := Res.good hres HSM.out.1; have HS1 := Lib.hid hS1; clear hS1 hres; have hB5 := hB.trans (hb5.mono hB.size))
    | (go_at_call 80; refine (text_res _ _ _ _ _ (Reads.below (xs := digs 0) (by rw [digs_zero]; exact hrr) hb5) (by rw [digs_zero]; exact HLR.out) (ht.below hB5) HE2.out).mono ?_; rintro e w6 ⟨S2, E, rfl, hres, hb6⟩; obtain ⟨hS2, rfl⟩ := Res.good hres HSM.out.2; have HS2 := Lib.hid hS2; clear hS2 hres; have hB6 := hB5.trans (hb6.mono hB5.size)))
  refine bodyPost_ret_by (v := .tuple #[.string S, .string S2, .int .i64 0]) (by simp [results, Tryz.f51, go_sem]) rfl ⟨by rw [HS1.out, HS2.out], hB6⟩
set_option maxRecDepth 100000 in
set_option maxHeartbeats 4000000 in
theorem divn_in (n m : Int) (w : World) (hn : n.natAbs < big) (hm : m.natAbs < big) (ht : TabOf w) (hm0 : m ≠ 0) (hneg : n < 0) (hz : 0 < n.natAbs % m.natAbs) :
    Calls Tryz.prog 51 #[.string (str n), .string (str m)] w (DivPost w n m) := by
  have HB := both_ok n m w hn hm
  unfold BothPost at HB
  have l1 := digs_big hn
  have l2 := digs_big hm
  have hsm := div_small hm0 hn hm
  have hb0 : 0 < m.natAbs := by omega
  have hlm : 0 < (digs m.natAbs).length := by
    rcases Nat.eq_zero_or_pos (digs m.natAbs).length with h | h
    · have := digs_eq_nil.1 (List.length_eq_zero_iff.1 h); omega
    · exact h
  have hE : sv (!decide (m < 0)) (n.natAbs / m.natAbs + 1) = n / m ∧ sv false (m.natAbs - n.natAbs % m.natAbs) = n % m := by have := div_neg1 hm0 hneg hz; rw [Bool.true_bne] at this; exact this
  have hmod := Nat.mod_lt n.natAbs hb0
  have HLQ : Hid ((digs (n.natAbs / m.natAbs + 1)).length ≤ 4000) := Lib.hid (digs_small_len (by
    have := Nat.div_add_mod n.natAbs m.natAbs
    have : n.natAbs / m.natAbs ≤ m.natAbs * (n.natAbs / m.natAbs) := Nat.le_mul_of_pos_left _ hb0
    omega))
  have HLR : Hid ((digs (m.natAbs - n.natAbs % m.natAbs)).length ≤ 4000) := Lib.hid (digs_small_len (by omega))
  have hlQ0 : (digs (n.natAbs / m.natAbs)).length ≤ 50 := digs_big (by have := Nat.div_le_self n.natAbs m.natAbs; omega)
  have HQ : Hid (∃ Q R, n.natAbs / m.natAbs = Q ∧ n.natAbs % m.natAbs = R) := Lib.hid ⟨_, _, rfl, rfl⟩
  obtain ⟨Q, R, hQ, hR⟩ := HQ.out
  clear HQ
  rw [hQ] at hE HLQ
  rw [hR] at hE HLR hz hmod
  rw [hQ] at hlQ0
  have hlR0 : 0 < (digs R).length := by
    rcases Nat.eq_zero_or_pos (digs R).length with h | h
    · have := digs_eq_nil.1 (List.length_eq_zero_iff.1 h); omega
    · exact h
  have HQ := Lib.hid hQ
  have HR := Lib.hid hR
  clear hQ hR
  have HE1 := Lib.hid hE.1
  have HE2 := Lib.hid hE.2
  have HSM := Lib.hid hsm
  have HP : Hid (decide (n < 0) = true) := Lib.hid (by simp; omega)
  rw [HP.out] at HB
  clear HP hE hsm hn hm
  generalize str n = s at *
  generalize str m = t at *
  generalize decide (m < 0) = q at *
  have HB := Lib.hid HB
  go_enter Tryz.func51, Tryz.ntmps51
  go_wp2_with (first
    | (go_at_call 78; refine HB.out.mono ?_; rintro e w1 ⟨v, u, rfl, hr1, hr2, hb1⟩; obtain ⟨a1, k1, rfl, _⟩ := hr1.shape; obtain ⟨a2, k2, rfl, _⟩ := hr2.shape; have t2 := TwoC.start w1 97 (.bool true) (.slice a1 (digs n.natAbs).length k1) (.bool q) (.slice a2 (digs m.natAbs).length k2); have c00 := t2.c00; have c01 := t2.c01; have c10 := t2.c10; have c11 := t2.c11; have r1 := hr1.below t2.b; have r2 := hr2.below t2.b; have tb := ht.below (hb1.trans (t2.b.mono hb1.size)))
    | (go_at_call 94; refine (over_in _ _ n.natAbs m.natAbs _ r1 r2 (by omega) (by omega) hb0).mono ?_; rintro e w3 ⟨v3, u3, rfl, hq, hr, _, _, hb3⟩; rw [HQ.out] at hq; rw [HR.out] at hr; obtain ⟨a3, k3, rfl, _⟩ := hq.shape; obtain ⟨a4, k4, rfl, _⟩ := hr.shape; have t3 := t2.below hb3; have d00 := t3.c00; have d01 := t3.c01; have d10 := t3.c10; have d11 := t3.c11; have hB3 := hb1.trans ((t2.b.trans (hb3.mono t2.b.size)).mono hb1.size); have tb3 := ht.below hB3))
  go_region_held3 (fun W => W.cell? ⟨w1.heap.size + 1, 1, none⟩ = some (.slice a2 (digs m.natAbs).length k2)) (first | exact d11 | exact e11 | exact f11 | exact g11) (first
    | (go_at_call 96; refine (one_in _).mono ?_; rintro e w4 ⟨v4, rfl, h4, _, hb4⟩; have hb4 := Below.of_drew hb4; obtain ⟨a5, k5, rfl, _⟩ := h4.shape; have t4 := t3.below hb4; have e11 := t4.c11; have hq4 := hq.below hb4; have hr4 := hr.below hb4)
    | (go_at_call 95; refine (plus_in _ _ Q 1 _ (by exact hq4) (by exact h4) (by omega) (by rw [digs_lit (by omega) (by omega)]; simp)).mono ?_; rintro e w5 ⟨v5, rfl, h5, _, hb5⟩; obtain ⟨a6, k6, rfl, _⟩ := h5.shape; have t5 := t4.below hb5; have f11 := t5.c11; have hr5 := hr4.below hb5; have hm5 := ((r2.below hb3).below hb4).below hb5)
    | (go_at_call 97; refine (minus_in _ _ m.natAbs R _ (by exact hm5) (by exact hr5) (by omega) (by omega)).mono ?_; rintro e w6 ⟨v6, rfl, h6, _, hb6⟩; obtain ⟨a7, k7, rfl, _⟩ := h6.shape; have t6 := t5.below hb6; have g00 := t6.c00; have g10 := t6.c10; have g11 := t6.c11; have hq6 := h5.below hb6; have hB := ((hB3.trans (hb4.mono hB3.size)).trans (hb5.mono (Nat.le_trans hB3.size hb4.size))).trans (hb6.mono (Nat.le_trans hB3.size (Nat.le_trans hb4.size hb5.size)))))
  go_wp2_with (first
    | (have HE1' := HE1; go_at_call 80; refine (text_res _ _ _ _ _ hq6 HLQ.out (ht.below hB) HE1'.out).mono ?_; clear HE1 HE1'; rintro e w7 ⟨S, E, rfl, hres, hb7⟩; obtain ⟨hS1, rfl⟩ := Res.good hres HSM.out.1; have HS1 := Lib.hid hS1; clear hS1 hres; have hB5 := hB.trans (hb7.mono hB.size))
    | (go_at_call 80; refine (text_res _ _ _ _ _ (Reads.below h6 hb7) HLR.out (ht.below hB5) HE2.out).mono ?_; rintro e w8 ⟨S2, E, rfl, hres, hb8⟩; obtain ⟨hS2, rfl⟩ := Res.good hres HSM.out.2; have HS2 := Lib.hid hS2; clear hS2 hres; have hB6 := hB5.trans (hb8.mono hB5.size)))
  refine bodyPost_ret_by (v := .tuple #[.string S, .string S2, .int .i64 0]) (by simp [results, Tryz.f51, go_sem]) rfl ⟨by rw [HS1.out, HS2.out], hB6⟩
theorem div_in (n m : Int) (w : World) (hn : n.natAbs < big) (hm : m.natAbs < big) (ht : TabOf w) (hm0 : m ≠ 0) :
    Calls Tryz.prog 51 #[.string (str n), .string (str m)] w (DivPost w n m) := by
  by_cases hneg : n < 0
  · rcases Nat.eq_zero_or_pos (n.natAbs % m.natAbs) with hz | hz
    · exact divz_in n m w hn hm ht hm0 hneg hz
    · exact divn_in n m w hn hm ht hm0 hneg hz
  · exact divp_in n m w hn hm ht hm0 hneg
end Go.Proofs.YtppbhnhmaocdnaaGreatDoor
namespace Go.Proofs.YtppbhnhmaocdnaaGreatDoor
open Go.RowKit Go.Shelf

theorem newton {N r : Nat} (hr : 0 < r) : N < ((r + N / r) / 2 + 1) * ((r + N / r) / 2 + 1) := by
  have h1 : N < r * (N / r + 1) := by
    have := Nat.div_add_mod N r
    have := Nat.mod_lt N hr
    rw [Nat.mul_add, Nat.mul_one]
    omega
  generalize N / r = q at *
  have h2 : r + q + 1 ≤ 2 * ((r + q) / 2 + 1) := by omega
  generalize (r + q) / 2 + 1 = t at *
  have h3 : (r + q + 1) * (r + q + 1) ≤ (2 * t) * (2 * t) := Nat.mul_le_mul h2 h2
  have h4 : 4 * (r * (q + 1)) ≤ (r + q + 1) * (r + q + 1) := by
    have : (4 * (r * (q + 1)) : Int) ≤ (r + q + 1) * (r + q + 1) := by
      have h5 : (0 : Int) ≤ ((r : Int) - (q + 1)) * ((r : Int) - (q + 1)) := by
        rcases Int.le_total 0 ((r : Int) - (q + 1)) with h | h
        · exact Int.mul_nonneg h h
        · have := Int.mul_nonneg (show 0 ≤ -((r : Int) - (q + 1)) by omega) (show 0 ≤ -((r : Int) - (q + 1)) by omega)
          rwa [Int.neg_mul_neg] at this
      grind
    exact_mod_cast this
  have h6 : (2 * t) * (2 * t) = 4 * (t * t) := by grind
  omega

theorem newton_stop {N r : Nat} (hr : 0 < r) (h : r ≤ (r + N / r) / 2) : r * r ≤ N := by
  have h1 : r ≤ N / r := by omega
  calc r * r ≤ r * (N / r) := Nat.mul_le_mul_left _ h1
    _ ≤ N := by have := Nat.div_add_mod N r; omega

theorem newton_pos {N r : Nat} (hN : 0 < N) (hr : 0 < r) (h : (r + N / r) / 2 < r) : 0 < (r + N / r) / 2 := by
  rcases Nat.lt_or_ge r 2 with h2 | h2
  · have : r = 1 := by omega
    subst this
    rw [Nat.div_one] at *
    omega
  · generalize N / r = q
    omega

theorem digs_pow (k : Nat) : digs (10000 ^ k) = List.replicate k 0 ++ [1] := by
  induction k with
  | zero => rw [Nat.pow_zero, digs_lit (by omega) (by omega)]; rfl
  | succ k ih => rw [Nat.pow_succ, Nat.mul_comm, digs_shift _ (by have := Nat.pow_pos (n := k) (show 0 < 10000 by omega); omega), ih]; rfl

theorem str_zero : str 0 = ⟨#[48]⟩ := by rw [str, itoa_zero]

theorem made_zero (k : Nat) : (madeCells #[Value.int .i64 0] (k * 1)).toList = (List.replicate k 0).map fun x : Nat => Value.int .i64 (x : Int) := by
  rw [Nat.mul_one]
  apply List.ext_getElem
  · simp [madeCells]
  · intro i h1 h2
    simp [madeCells, Nat.mod_one]

theorem TwoC.belowB {w W W' : World} {a b c d : Value} (h : TwoC w W a b c d) {B : Nat} (hb : Below B W W') (hB : w.heap.size + 2 ≤ B) : TwoC w W' a b c d :=
  ⟨(hb.cell (p := ⟨w.heap.size, 0, none⟩) (by show w.heap.size < B; omega)).trans h.c00, (hb.cell (p := ⟨w.heap.size, 1, none⟩) (by show w.heap.size < B; omega)).trans h.c01,
    (hb.cell (p := ⟨w.heap.size + 1, 0, none⟩) (by show w.heap.size + 1 < B; omega)).trans h.c10, (hb.cell (p := ⟨w.heap.size + 1, 1, none⟩) (by show w.heap.size + 1 < B; omega)).trans h.c11,
    fun j => (hb.frozen (p := ⟨w.heap.size, j, none⟩) (by show w.heap.size < B; omega)).trans (h.f0 j), fun j => (hb.frozen (p := ⟨w.heap.size + 1, j, none⟩) (by show w.heap.size + 1 < B; omega)).trans (h.f1 j), h.b.trans (hb.mono (by omega))⟩

def IsRoot (N s : Nat) : Prop := s * s ≤ N ∧ N < (s + 1) * (s + 1)

def RootPost (w : World) (N : Nat) (e : Ending) (w' : World) : Prop :=
  ∃ s, IsRoot N s ∧ e = .returned (.tuple #[.string (str (s : Int)), .int .i64 0]) ∧ Below w.heap.size w w'

set_option maxRecDepth 100000 in
set_option maxHeartbeats 4000000 in
theorem root_in (N : Nat) (w : World) (hN : N < big) (ht : TabOf w) (hN0 : 0 < N) :
    Calls Tryz.prog 152 #[.string (str (N : Int))] w (RootPost w N) := by
  have HB := both_ok (N : Int) 0 w (by simpa using hN) (by rw [big_eq]; exact Nat.pow_pos (by omega))
  unfold BothPost at HB
  rw [show decide ((N : Int) < 0) = false by simp, show decide ((0 : Int) < 0) = false by rfl, str_zero, Int.natAbs_natCast] at HB
  have HB := Lib.hid HB
  have l1 := digs_big hN
  obtain ⟨i0, hi, hz0, hz1, hz2⟩ := info_parts Tryz.infoI
  have hlN : 0 < (digs N).length := by
    rcases Nat.eq_zero_or_pos (digs N).length with h | h
    · have := digs_eq_nil.1 (List.length_eq_zero_iff.1 h); omega
    · exact h
  obtain ⟨k, hk⟩ : ∃ k : Nat, ((digs N).length + 1) / 2 = k := ⟨_, rfl⟩
  have hk1 : k ≤ 30 := by omega
  have hkN : N < 10000 ^ k * 10000 ^ k := by
    have h1 := (digs_length_le_iff N (digs N).length).1 (Nat.le_refl _)
    have h2 : 10000 ^ (digs N).length ≤ 10000 ^ (k + k) := Nat.pow_le_pow_right (by omega) (by omega)
    rw [← Nat.pow_add]; omega
  have HK : Hid ((((digs N).length : Int) + 1) / 2 = (k : Int)) := Lib.hid (by omega)
  generalize hs : str (N : Int) = s at *
  clear hs hk
  go_enter Tryz.func152, Tryz.ntmps152
  go_wp2_with (first
    | (go_at_call 78; refine HB.out.mono ?_; rintro e w1 ⟨v, u, rfl, hr1, hr2, hb1⟩; obtain ⟨a1, k1, rfl, _⟩ := hr1.shape; obtain ⟨a2, k2, rfl, _⟩ := hr2.shape; have t2 := TwoC.start w1 97 (.bool false) (.slice a1 (digs N).length k1) (.bool false) (.slice a2 (digs (0 : Int).natAbs).length k2); have c00 := t2.c00; have c01 := t2.c01; have c10 := t2.c10; have c11 := t2.c11; have r1 := hr1.below t2.b; have tb := ht.below (hb1.trans (t2.b.mono hb1.size)))
    | (at_make; refine wpList_make_full _ rfl _ _ 95 rfl (w1.heap.size + 2) 3 i0 (.int .i64 0) 1 Tryz.underT hi hz0 hz1 _ _ _ _ k rfl rfl (by exact HK.out) (by exact HK.out) (by rw [hz2]; omega) (by unfold maxLen; omega) (by simp) ?_; intro w2 hown hg; rw [show Value.cells (.int .i64 0) = #[.int .i64 0] from rfl, made_zero, World.size_alloc, World.size_alloc] at hown; have hbg : Below _ _ w2 := (Below.refl _ _).grown hg (Nat.le_refl _) (by intro k hk; cases hk); have t3 := t2.below hbg; have hz3 : w1.heap.size + 2 ≤ w2.heap.size := by have := hbg.size; simpa using this)
    | (at_builtin; refine wpList_append_one rfl _ _ 95 rfl Tryz.underT Tryz.infoI (w1.heap.size + 2) w2 1 (.slice (some ⟨w1.heap.size + 1 + 1, 0, none⟩) k k) k _ rfl hown rfl (by omega) hz3 ?_; intro v4 w4 hown4 hb4; have t4 := t3.belowB hb4 (Nat.le_refl _); have hr4 := Reads.of_owns (l := List.replicate k 0 ++ [1]) (by rw [List.map_append]; exact hown4)))
  have hb4' : Below w1.heap.size w1 w4 := t4.b
  have hz1 : w.heap.size ≤ w1.heap.size := hb1.size
  rw [← digs_pow] at hr4
  have hkb : 10000 ^ k ≤ big := by
    have : big = 10000 ^ 50 := by rw [big_eq, show (10000 : Nat) = 10 ^ 4 from rfl, ← Nat.pow_mul]
    rw [this]; exact Nat.pow_le_pow_right (by omega) (by omega)
  have hk0 : 0 < 10000 ^ k := Nat.pow_pos (by omega)
  have hkN2 : N < (10000 ^ k + 1) * (10000 ^ k + 1) := Nat.lt_of_lt_of_le hkN (Nat.mul_le_mul (by omega) (by omega))
  generalize 10000 ^ k = r0 at *
  have HKN := Lib.hid hkN2
  clear hkN hkN2
  go_loopw [7, 8, 9, 10, 11] (fun v _ _ _ _ W => ∃ r : Nat, Reads W v (digs r) ∧ 0 < r ∧ r ≤ big ∧ Hid (N < (r + 1) * (r + 1)) ∧ W.cell? ⟨w1.heap.size, 1, none⟩ = some (.slice a1 (digs N).length k1) ∧ Below w1.heap.size w1 W) (fun v _ _ _ _ W => numOf W v)
  case atStart => exact ⟨r0, hr4, hk0, hkb, HKN, t4.c01, hb4'⟩
  case round =>
    obtain ⟨r, hr, hr0, hrb, HRN, hc, hB⟩ := hrel
    have hrN := hr1.below hB
    have hnum := numOf_eq hr
    have lr : (digs r).length ≤ 100 := digs_two (by
      have : 2 * big ≤ big * big := Nat.mul_le_mul_right _ (by rw [big_eq]; exact Nat.le_trans (by decide) (Nat.pow_le_pow_right (n := 10) (by omega) (show 1 ≤ 200 by omega)))
      have := big_pos; omega)
    have lq : (digs (r + N / r)).length ≤ 100 := digs_two (by
      have : 2 * big ≤ big * big := Nat.mul_le_mul_right _ (by rw [big_eq]; exact Nat.le_trans (by decide) (Nat.pow_le_pow_right (n := 10) (by omega) (show 1 ≤ 200 by omega)))
      have := big_pos; have := Nat.div_le_self N r; omega)
    have lnx : (digs ((r + N / r) / 2)).length ≤ 100 := digs_two (by
      have : 2 * big ≤ big * big := Nat.mul_le_mul_right _ (by rw [big_eq]; exact Nat.le_trans (by decide) (Nat.pow_le_pow_right (n := 10) (by omega) (show 1 ≤ 200 by omega)))
      have := big_pos; have := Nat.div_le_self N r; omega)
    have lq1 : (digs (N / r)).length ≤ 100 := by have := digs_big (Nat.lt_of_le_of_lt (Nat.div_le_self N r) hN); omega
    have hnw := newton (N := N) hr0
    have hst := newton_stop (N := N) hr0
    have hps := newton_pos hN0 hr0
    obtain ⟨ar, cr, rfl, _⟩ := hr.shape
    have hle2 : (r + N / r) / 2 < r → (r + N / r) / 2 ≤ big := by omega
    generalize hq : N / r = q at *
    generalize hnx : (r + q) / 2 = nx at *
    have HNW := Lib.hid hnw
    have HST := Lib.hid hst
    have HPS := Lib.hid hps
    have HQ := Lib.hid hq
    have HNX := Lib.hid hnx
    clear hnw hst hps hq hnx
    rcases Nat.lt_or_ge nx r with hlt | hge
    · have hcc : cmpI nx r = -1 := by unfold cmpI; rw [if_pos (by omega)]
      have HCC := Lib.hid hcc
      clear hcc
      go_wp2_with (first
        | (have HQ1 := HQ; go_at_call 94; refine (over_in _ _ N r _ hrN hr (by omega) (by omega) hr0).mono ?_; rintro e w5 ⟨q5, r5, rfl, hq5, _, _, _, hb5⟩; rw [HQ1.out] at hq5; clear HQ HQ1; obtain ⟨aq, cq, rfl, _⟩ := hq5.shape; have hr6 := hr.below hb5)
        | (go_at_call 95; refine (plus_in _ _ r q _ hr6 hq5 (by omega) (by omega)).mono ?_; rintro e w6 ⟨v6, rfl, h6, _, hb6⟩; obtain ⟨a6, c6, rfl, _⟩ := h6.shape; have h7 := h6.below (belowNew w6 (.cells #[.int .i64 2] 3)); have l2' := reads_lit (c := 2) (World.alloc_heap_new w6 (.cells #[.int .i64 2] 3)) (by omega) (by omega); have hr7 := (hr6.below hb6).below (belowNew w6 (.cells #[.int .i64 2] 3)))
        | (go_at_call 94; refine (over_in _ _ (r + q) 2 _ h7 l2' (by omega) (by rw [digs_lit (by omega) (by omega)]; simp) (by omega)).mono ?_; rintro e w8 ⟨q8, r8, rfl, hq8, _, _, _, hb8⟩; rw [HNX.out] at hq8; obtain ⟨a8, c8, rfl, _⟩ := hq8.shape; have hr8 := hr7.below hb8)
        | (go_at_call 98; refine (compare_in _ _ nx r _ hq8 hr8 (by omega) (by omega)).mono ?_; rw [HCC.out]; rintro e w9 ⟨rfl, hb9⟩))
      have hb10 := (hb5.trans (((hb6.trans ((belowNew w6 (.cells #[.int .i64 2] 3)).mono hb6.size)).trans (hb8.mono (Nat.le_trans hb6.size (by rw [sizeNew]; omega)))).mono hb5.size))
      have hb11 := hb10.trans (hb9.mono hb10.size)
      refine ⟨⟨nx, hq8.below hb9, HPS.out (by omega), hle2 hlt, HNW, Below.get hb11 hc, hB.trans (hb11.mono hB.size)⟩, ?_⟩
      rw [numOf_eq (hq8.below hb9), hnum]; exact hlt
    · have hcc : (0 : Int) ≤ cmpI nx r := by unfold cmpI; rw [if_neg (by omega)]; split <;> decide
      have HST2 := Lib.hid (HST.out (by omega))
      clear HST
      generalize hci : cmpI (nx : Int) (r : Int) = ci at *
      have HCC := Lib.hid hci
      have hci0 : decide ((0 : Int) ≤ ci) = true := decide_eq_true hcc
      have hrb2 : r < big := by
        rcases Nat.lt_or_ge r big with h | h
        · exact h
        · have h1 : 1 * r ≤ r * r := Nat.mul_le_mul_right _ hr0
          have := HST2.out; omega
      have HSV : Hid (sv false r = (r : Int)) := Lib.hid rfl
      have HLR : Hid ((digs r).length ≤ 4000) := Lib.hid (by omega)
      clear hci
      go_wp2_with (first
        | (have HQ1 := HQ; go_at_call 94; refine (over_in _ _ N r _ hrN hr (by omega) (by omega) hr0).mono ?_; rintro e w5 ⟨q5, r5, rfl, hq5, _, _, _, hb5⟩; rw [HQ1.out] at hq5; clear HQ HQ1; obtain ⟨aq, cq, rfl, _⟩ := hq5.shape; have hr6 := hr.below hb5)
        | (go_at_call 95; refine (plus_in _ _ r q _ hr6 hq5 (by omega) (by omega)).mono ?_; rintro e w6 ⟨v6, rfl, h6, _, hb6⟩; obtain ⟨a6, c6, rfl, _⟩ := h6.shape; have h7 := h6.below (belowNew w6 (.cells #[.int .i64 2] 3)); have l2' := reads_lit (c := 2) (World.alloc_heap_new w6 (.cells #[.int .i64 2] 3)) (by omega) (by omega); have hr7 := (hr6.below hb6).below (belowNew w6 (.cells #[.int .i64 2] 3)))
        | (go_at_call 94; refine (over_in _ _ (r + q) 2 _ h7 l2' (by omega) (by rw [digs_lit (by omega) (by omega)]; simp) (by omega)).mono ?_; rintro e w8 ⟨q8, r8, rfl, hq8, _, _, _, hb8⟩; rw [HNX.out] at hq8; obtain ⟨a8, c8, rfl, _⟩ := hq8.shape; have hr8 := hr7.below hb8)
        | (go_at_call 98; refine (compare_in _ _ nx r _ hq8 hr8 (by omega) (by omega)).mono ?_; rw [HCC.out]; rintro e w9 ⟨rfl, hb9⟩; have hb10 := (hb5.trans (((hb6.trans ((belowNew w6 (.cells #[.int .i64 2] 3)).mono hb6.size)).trans (hb8.mono (Nat.le_trans hb6.size (by rw [sizeNew]; omega)))).mono hb5.size)); have hb11 := hb10.trans (hb9.mono hb10.size); have hB11 := hB.trans (hb11.mono hB.size); have hB12 := hb1.trans (hB11.mono hb1.size))
        | (go_at_call 80; refine (text_res _ _ _ _ _ (hr.below hb11) HLR.out (ht.below hB12) HSV.out).mono ?_; rintro e w10 ⟨S, E, rfl, hres, hb12⟩))
      go_ret2
      have hgood := Res.good hres (by simpa using hrb2)
      exact ⟨r, ⟨HST2.out, HRN.out⟩, by rw [hgood.1, hgood.2]; rfl, hB12.trans (hb12.mono hB12.size)⟩
end Go.Proofs.YtppbhnhmaocdnaaGreatDoor
namespace Go.Proofs.YtppbhnhmaocdnaaGreatDoor
open Go.RowKit Go.Shelf

set_option maxRecDepth 100000 in
set_option maxHeartbeats 4000000 in
theorem cmp_in (n m : Int) (w : World) (hn : n.natAbs < big) (hm : m.natAbs < big) :
    Calls Tryz.prog 52 #[.string (str n), .string (str m)] w fun e w' => e = .returned (.int .i64 (cmpI n m)) ∧ Below w.heap.size w w' := by
  have HB := both_ok n m w hn hm
  unfold BothPost at HB
  have l1 := digs_big hn
  have l2 := digs_big hm
  have hR : Hid ((bif decide (n < 0) then (bif decide (m < 0) then cmpI m.natAbs n.natAbs else -1) else (bif decide (m < 0) then 1 else cmpI n.natAbs m.natAbs)) = cmpI n m) := Lib.hid (by
    unfold cmpI
    by_cases h1 : n < 0 <;> by_cases h2 : m < 0 <;> simp only [h1, h2, decide_true, decide_false, cond_true, cond_false] <;> (repeat' split) <;> omega)
  rw [← hR.out]
  clear hR
  generalize str n = s at *
  generalize str m = t at *
  generalize decide (n < 0) = p at *
  generalize decide (m < 0) = q at *
  have HB := Lib.hid HB
  clear hn hm
  go_enter Tryz.func52, Tryz.ntmps52
  cases p <;> cases q <;> simp only [cond_true, cond_false]
  · go_wp2_with (first
      | (go_at_call 78; refine HB.out.mono ?_; rintro e w1 ⟨v, u, rfl, hr1, hr2, hb1⟩; obtain ⟨a1, k1, rfl, _⟩ := hr1.shape; obtain ⟨a2, k2, rfl, _⟩ := hr2.shape; have t2 := TwoC.start w1 97 (.bool false) (.slice a1 (digs n.natAbs).length k1) (.bool false) (.slice a2 (digs m.natAbs).length k2); have c00 := t2.c00; have c01 := t2.c01; have c10 := t2.c10; have c11 := t2.c11; have r1 := hr1.below t2.b; have r2 := hr2.below t2.b)
      | (go_at_call 98; refine (compare_in _ _ _ _ _ r1 r2 (by omega) (by omega)).mono ?_; rintro e w2 ⟨rfl, hb2⟩))
    go_ret
    exact ⟨rfl, hb1.trans ((t2.b.trans (hb2.mono t2.b.size)).mono hb1.size)⟩
  · go_wp2_with (first
      | (go_at_call 78; refine HB.out.mono ?_; rintro e w1 ⟨v, u, rfl, hr1, hr2, hb1⟩; obtain ⟨a1, k1, rfl, _⟩ := hr1.shape; obtain ⟨a2, k2, rfl, _⟩ := hr2.shape; have t2 := TwoC.start w1 97 (.bool false) (.slice a1 (digs n.natAbs).length k1) (.bool true) (.slice a2 (digs m.natAbs).length k2); have c00 := t2.c00; have c01 := t2.c01; have c10 := t2.c10; have c11 := t2.c11))
    go_ret
    exact ⟨rfl, hb1.trans (t2.b.mono hb1.size)⟩
  · go_wp2_with (first
      | (go_at_call 78; refine HB.out.mono ?_; rintro e w1 ⟨v, u, rfl, hr1, hr2, hb1⟩; obtain ⟨a1, k1, rfl, _⟩ := hr1.shape; obtain ⟨a2, k2, rfl, _⟩ := hr2.shape; have t2 := TwoC.start w1 97 (.bool true) (.slice a1 (digs n.natAbs).length k1) (.bool false) (.slice a2 (digs m.natAbs).length k2); have c00 := t2.c00; have c01 := t2.c01; have c10 := t2.c10; have c11 := t2.c11))
    go_ret
    exact ⟨rfl, hb1.trans (t2.b.mono hb1.size)⟩
  · go_wp2_with (first
      | (go_at_call 78; refine HB.out.mono ?_; rintro e w1 ⟨v, u, rfl, hr1, hr2, hb1⟩; obtain ⟨a1, k1, rfl, _⟩ := hr1.shape; obtain ⟨a2, k2, rfl, _⟩ := hr2.shape; have t2 := TwoC.start w1 97 (.bool true) (.slice a1 (digs n.natAbs).length k1) (.bool true) (.slice a2 (digs m.natAbs).length k2); have c00 := t2.c00; have c01 := t2.c01; have c10 := t2.c10; have c11 := t2.c11; have r1 := hr1.below t2.b; have r2 := hr2.below t2.b)
      | (go_at_call 98; refine (compare_in _ _ _ _ _ r2 r1 (by omega) (by omega)).mono ?_; rintro e w2 ⟨rfl, hb2⟩))
    go_ret
    exact ⟨rfl, hb1.trans ((t2.b.trans (hb2.mono t2.b.size)).mono hb1.size)⟩
end Go.Proofs.YtppbhnhmaocdnaaGreatDoor
namespace Go.Proofs.YtppbhnhmaocdnaaGreatDoor
open Go.RowKit Go.Shelf

theorem sv_mul (p q : Bool) (a b : Nat) : sv (p != q) (a * b) = sv p a * sv q b := by
  cases p <;> cases q <;> simp [sv, Int.mul_neg, Int.neg_mul]

set_option maxRecDepth 100000 in
set_option maxHeartbeats 4000000 in
theorem mul_in (n m : Int) (w : World) (hn : n.natAbs < big) (hm : m.natAbs < big) (ht : TabOf w) :
    Calls Tryz.prog 100 #[.string (str n), .string (str m)] w (OpPost w (n * m)) := by
  have HB := Lib.hid (both_ok n m w hn hm)
  have l1 := digs_big hn
  have l2 := digs_big hm
  have HS : Hid (sv (decide (n < 0) != decide (m < 0)) (n.natAbs * m.natAbs) = n * m) := Lib.hid (by rw [sv_mul, sv_of, sv_of])
  have HBD : Hid ((digs (n.natAbs * m.natAbs)).length ≤ 4000) := Lib.hid (by
    have := digs_two (c := n.natAbs * m.natAbs) (Nat.mul_lt_mul'' hn hm); omega)
  generalize str n = s at *
  generalize str m = t at *
  clear hn hm
  go_enter Tryz.func100, Tryz.ntmps100
  go_wp2_with (first
    | (go_at_call 78; refine HB.out.mono ?_; rintro e w1 ⟨v, u, rfl, hr1, hr2, hb1⟩; obtain ⟨a1, k1, rfl, _⟩ := hr1.shape; obtain ⟨a2, k2, rfl, _⟩ := hr2.shape; have t2 := TwoC.start w1 97 (.bool (decide (n < 0))) (.slice a1 (digs n.natAbs).length k1) (.bool (decide (m < 0))) (.slice a2 (digs m.natAbs).length k2); have c00 := t2.c00; have c01 := t2.c01; have c10 := t2.c10; have c11 := t2.c11; have r1 := hr1.below t2.b; have r2 := hr2.below t2.b; have tb := ht.below (hb1.trans (t2.b.mono hb1.size))))
  go_region_held3 (fun W => W.cell? ⟨w1.heap.size, 0, none⟩ = some (.bool (decide (n < 0))) ∧ W.cell? ⟨w1.heap.size, 1, none⟩ = some (.slice a1 (digs n.natAbs).length k1) ∧ W.cell? ⟨w1.heap.size + 1, 0, none⟩ = some (.bool (decide (m < 0))) ∧ W.cell? ⟨w1.heap.size + 1, 1, none⟩ = some (.slice a2 (digs m.natAbs).length k2)) (first | exact ⟨c00, c01, c10, c11⟩ | exact ⟨d00, d01, d10, d11⟩ | exact ⟨e00, e01, e10, e11⟩) (first
    | (go_at_call 143; refine (times_in _ _ _ _ _ (by exact r1) (by exact r2) (by omega) (by omega)).mono ?_; rintro e w2 ⟨z, rfl, hz, _, hb2⟩; obtain ⟨az, kz, rfl, _⟩ := hz.shape; have hb2 := Below.of_drew hb2; have t3 := t2.below hb2; have d00 := t3.c00; have d01 := t3.c01; have d10 := t3.c10; have d11 := t3.c11)
    | (go_at_call 80; refine (text_res _ _ _ _ _ hz HBD.out (by exact tb.below hb2) HS.out).mono ?_; rintro e w3 ⟨S, E, rfl, hres, hb3⟩; have t4 := t3.below hb3; have e00 := t4.c00; have e01 := t4.c01; have e10 := t4.c10; have e11 := t4.c11))
  all_goals
    go_wp2
    go_ret2
    exact OpPost.res hres (hb1.trans ((t2.b.trans ((hb2.mono t2.b.size).trans (hb3.mono (Nat.le_trans t2.b.size hb2.size)))).mono hb1.size))
end Go.Proofs.YtppbhnhmaocdnaaGreatDoor
namespace Go.Proofs.YtppbhnhmaocdnaaGreatDoor
open Go.RowKit Go.Shelf

def RV (n d : Int) : Value := .agg #[.string (str n), .string (str d)]

theorem gcd_big {n d : Int} (hn : n.natAbs < big) (hd : d.natAbs < big) : ((Int.gcd n d : Nat) : Int).natAbs < big := by
  rw [Int.natAbs_natCast]
  rcases Nat.eq_zero_or_pos n.natAbs with h | h
  · have : Int.gcd n d = d.natAbs := by rw [Int.gcd, h, Nat.gcd_zero_left]
    omega
  · have := Nat.le_of_dvd h (Nat.gcd_dvd_left n.natAbs d.natAbs)
    have e : Int.gcd n d = Nat.gcd n.natAbs d.natAbs := rfl
    omega

theorem str_one : str 1 = ⟨#[49]⟩ := by rw [str, show (1 : Int) = ((1 : Nat) : Int) from rfl, itoa_nat, dec_small (by omega)]; rfl

theorem str_toList (n : Int) : (str n).toList = Lib.itoa n := by rw [ByteArray.toList_eq]; rfl
theorem itoa_one : Lib.itoa 1 = [49] := by rw [show (1 : Int) = ((1 : Nat) : Int) from rfl, itoa_nat, dec_small (by omega)]; rfl
theorem str_test1 (n : Int) : ((str n).toList == [49]) = decide (n = 1) := by
  rw [str_toList, ← itoa_one, Bool.eq_iff_iff, beq_iff_eq, decide_eq_true_iff]
  exact ⟨itoa_inj, fun h => by rw [h]⟩
theorem str_test0 (n : Int) : ((str n).toList == [48]) = decide (n = 0) := by
  rw [str_toList, ← itoa_zero, Bool.eq_iff_iff, beq_iff_eq, decide_eq_true_iff]
  exact ⟨itoa_inj, fun h => by rw [h]⟩

def RatOk (n d : Int) : Bool := decide (0 < d) && decide (Int.gcd n d = 1)

set_option maxRecDepth 100000 in
set_option maxHeartbeats 4000000 in
theorem rvalid_in (n d : Int) (w : World) (hn : n.natAbs < big) (hd : d.natAbs < big) (ht : TabOf w) :
    Calls Tryz.prog 50 #[RV n d] w fun e w' => e = .returned (.bool (RatOk n d)) ∧ Below w.heap.size w w' := by
  have HV1 := valid_in (str n)
  have HV2 := valid_in (str d)
  rw [vld_str hn] at HV1
  rw [vld_str hd] at HV2
  have HC := fun W => cmp_in d 0 W hd (by rw [big_eq]; exact Nat.pow_pos (by omega))
  rw [str_zero] at HC
  have HG := fun W h => gcd_in n d W hn hd h
  have HGB := Lib.hid (gcd_big hn hd)
  unfold RV RatOk
  generalize str n = s at *
  generalize str d = t at *
  have HV1 := Lib.hid HV1
  have HV2 := Lib.hid HV2
  have HC := Lib.hid HC
  have HG := Lib.hid HG
  have k0 := OneC.new (Below.refl w.heap.size w) 25 (.string s) (.string t)
  clear hn hd
  by_cases hpos : 0 < d
  · have hcc : cmpI d 0 = 1 := by unfold cmpI; rw [if_neg (by omega), if_pos hpos]
    rw [hcc] at HC
    have c0 := k0.c00
    have c1 := k0.c01
    go_enter Tryz.func50, Tryz.ntmps50
    go_wp2_with (first
      | (have HA := HV1; go_at_call 92; refine (HA.out _).mono ?_; clear HV1 HA; rintro e w1 ⟨rfl, hb1⟩; have k1 := k0.below hb1; have c0 := k1.c00; have c1 := k1.c01)
      | (have HA := HV2; go_at_call 92; refine (HA.out _).mono ?_; clear HV2 HA; rintro e w2 ⟨rfl, hb2⟩; have k2 := k1.below hb2; have c0 := k2.c00; have c1 := k2.c01)
      | (go_at_call 52; refine (HC.out _).mono ?_; rintro e w3 ⟨rfl, hb3⟩; have k3 := k2.below hb3; have c0 := k3.c00; have c1 := k3.c01)
      | (go_at_call 93; refine (HG.out _ (ht.below k3.b)).mono ?_; rintro e w4 ⟨rfl, hb4⟩))
    go_ret
    refine ⟨?_, k3.b.trans (hb4.mono k3.b.size)⟩
    show Ending.returned (Value.bool ((str (Int.gcd n d : Nat)).toList == [49])) = _
    rw [str_test1, decide_eq_true hpos, Bool.true_and]
    congr 3
    apply propext
    omega
  · have hcc : decide (cmpI d 0 ≤ 0) = true := decide_eq_true (by unfold cmpI; rw [if_neg hpos]; split <;> omega)
    rw [decide_eq_false hpos, Bool.false_and]
    generalize cmpI d 0 = cc at *
    have c0 := k0.c00
    have c1 := k0.c01
    go_enter Tryz.func50, Tryz.ntmps50
    go_wp2_with (first
      | (have HA := HV1; go_at_call 92; refine (HA.out _).mono ?_; clear HV1 HA; rintro e w1 ⟨rfl, hb1⟩; have k1 := k0.below hb1; have c0 := k1.c00; have c1 := k1.c01)
      | (have HA := HV2; go_at_call 92; refine (HA.out _).mono ?_; clear HV2 HA; rintro e w2 ⟨rfl, hb2⟩; have k2 := k1.below hb2; have c0 := k2.c00; have c1 := k2.c01)
      | (go_at_call 52; refine (HC.out _).mono ?_; rintro e w3 ⟨rfl, hb3⟩; have k3 := k2.below hb3; have c0 := k3.c00; have c1 := k3.c01))
    go_ret
    exact ⟨rfl, k3.b⟩
end Go.Proofs.YtppbhnhmaocdnaaGreatDoor
namespace Go.Proofs.YtppbhnhmaocdnaaGreatDoor
open Go.RowKit Go.Shelf

structure Good (p : Nat) (W : World) : Prop where
  c : W.cell? ⟨p, 0, none⟩ = some (.bool false)
  f : W.frozen? ⟨p, 0, none⟩ = false

theorem Good.lt {p : Nat} {W : World} (h : Good p W) : p < W.heap.size := ltOf h.c
theorem Good.below {p : Nat} {W W' : World} (h : Good p W) (hb : Below W.heap.size W W') : Good p W' := ⟨Below.get hb h.c, Below.unf hb h.c h.f⟩
theorem Good.set {p : Nat} {W : World} (h : Good p W) : Good p (W.setCell ⟨p, 0, none⟩ (.bool false)) := ⟨setSame h.c _, by rw [World.frozen?_setCell]; exact h.f⟩

def Does (f : Nat) (a b : ByteArray) (S : ByteArray) (w : World) : Prop := Calls Tryz.prog f #[.string a, .string b] w fun e w' => e = .returned (.tuple #[.string S, .int .i64 0]) ∧ Below w.heap.size w w'

def DoPost (p : Nat) (S : ByteArray) (w : World) (e : Ending) (w' : World) : Prop := e = .returned (.string S) ∧ Good p w' ∧ But p w w'

set_option maxRecDepth 100000 in
set_option maxHeartbeats 4000000 in
theorem do_in (f p : Nat) (a b S : ByteArray) (w : World) (hg : Good p w) (hf : Does f a b S w) (eg : ∀ args w, (callFunc f args).run Tryz.prog w = .ok (.enter f args) w) :
    Calls Tryz.prog 77 #[.pointer (some ⟨p, 0, none⟩), .func (.func f) #[] #[], .string a, .string b] w (DoPost p S w) := by
  have c0 := hg.c
  have HF := Lib.hid hf
  clear hf
  go_enter Tryz.func77, Tryz.ntmps77
  go_wp2_with (first
    | (have HF' := HF; refine (show Calls _ f _ w _ from HF'.out).mono ?_; clear HF HF'; rintro e w1 ⟨rfl, hb1⟩; have g1 := hg.below hb1; have c1 := g1.c; have f1 := g1.f))
  go_ret
  exact ⟨rfl, g1.set, (But.of hb1).trans (But.set _ _ _ _)⟩

def TabB (B : Nat) (w : World) : Prop := ∀ w', Below B w w' → TabOf w'
theorem TabOf.toB {w : World} (h : TabOf w) : TabB w.heap.size w := fun _ hb => h.below hb
theorem TabB.here {B : Nat} {w : World} (h : TabB B w) : TabOf w := h w (Below.refl _ _)
theorem TabB.below {B : Nat} {w w' : World} (h : TabB B w) (hb : Below B w w') : TabB B w' := fun _ hb' => h _ (hb.trans hb')
theorem TabB.grow {B : Nat} {w w' : World} (h : TabB B w) (hb : Below w.heap.size w w') (hB : B ≤ w.heap.size) : TabB B w' := h.below (hb.mono hB)
theorem TabB.but {B p : Nat} {w w' : World} (h : TabB B w) (hb : But p w w') (h1 : B ≤ p) (h2 : B ≤ w.heap.size) : TabB B w' := h.below (hb.below h1 h2)

theorem OpPost.does {w w' : World} {n : Int} {e : Ending} (h : OpPost w n e w') (hb : n.natAbs < big) : e = .returned (.tuple #[.string (str n), .int .i64 0]) ∧ Below w.heap.size w w' := by
  obtain ⟨h1, h2⟩ := h
  rw [if_pos hb, if_pos hb] at h1
  exact ⟨h1, h2⟩

theorem does_add {n m : Int} {w : World} (hn : n.natAbs < big) (hm : m.natAbs < big) (hr : (n + m).natAbs < big) (ht : TabOf w) : Does 35 (str n) (str m) (str (n + m)) w := (add_in n m w hn hm ht).mono fun _ _ h => h.does hr
theorem does_sub {n m : Int} {w : World} (hn : n.natAbs < big) (hm : m.natAbs < big) (hr : (n - m).natAbs < big) (ht : TabOf w) : Does 45 (str n) (str m) (str (n - m)) w := (sub_in n m w hn hm ht).mono fun _ _ h => h.does hr
theorem does_mul {n m : Int} {w : World} (hn : n.natAbs < big) (hm : m.natAbs < big) (hr : (n * m).natAbs < big) (ht : TabOf w) : Does 100 (str n) (str m) (str (n * m)) w := (mul_in n m w hn hm ht).mono fun _ _ h => h.does hr
theorem does_gcd {n m : Int} {w : World} (hn : n.natAbs < big) (hm : m.natAbs < big) (ht : TabOf w) : Does 93 (str n) (str m) (str (Int.gcd n m)) w := (gcd_in n m w hn hm ht).mono fun _ _ h => h.does (gcd_big hn hm)

theorem does_quo {n m : Int} {w : World} (hn : n.natAbs < big) (hm : m.natAbs < big) (hm0 : m ≠ 0) (ht : TabOf w) : Does 151 (str n) (str m) (str (n / m)) w := by
  have HD := Lib.hid (div_in n m w hn hm ht hm0)
  unfold Does
  unfold DivPost at HD
  generalize str n = s at *
  generalize str m = t at *
  generalize str (n / m) = q at *
  generalize str (n % m) = r at *
  go_enter Tryz.func151, Tryz.ntmps151
  go_wp2_with (go_at_call 51; refine HD.out.mono ?_; rintro e w1 ⟨rfl, hb1⟩)
  go_ret2
  exact ⟨rfl, hb1⟩

theorem ent_add : ∀ args w, (callFunc 35 args).run Tryz.prog w = .ok (.enter 35 args) w := enters_of Tryz.func35 (by kernel_rfl) rfl
theorem ent_sub : ∀ args w, (callFunc 45 args).run Tryz.prog w = .ok (.enter 45 args) w := enters_of Tryz.func45 (by kernel_rfl) rfl
theorem ent_mul : ∀ args w, (callFunc 100 args).run Tryz.prog w = .ok (.enter 100 args) w := enters_of Tryz.func100 (by kernel_rfl) rfl
theorem ent_gcd : ∀ args w, (callFunc 93 args).run Tryz.prog w = .ok (.enter 93 args) w := enters_of Tryz.func93 (by kernel_rfl) rfl
theorem ent_quo : ∀ args w, (callFunc 151 args).run Tryz.prog w = .ok (.enter 151 args) w := enters_of Tryz.func151 (by kernel_rfl) rfl

theorem wmul_in (p : Nat) (n m : Int) (w : World) (hg : Good p w) (hn : n.natAbs < big) (hm : m.natAbs < big) (hr : (n * m).natAbs < big) (ht : TabOf w) :
    Calls Tryz.prog 69 #[.pointer (some ⟨p, 0, none⟩), .string (str n), .string (str m)] w (DoPost p (str (n * m)) w) := by
  have HD := Lib.hid (do_in 100 p (str n) (str m) (str (n * m)) w hg (does_mul hn hm hr ht) ent_mul)
  generalize str n = s at *
  generalize str m = t at *
  generalize str (n * m) = q at *
  go_enter Tryz.func69, Tryz.ntmps69
  go_wp2_with (go_at_call 77; refine HD.out.mono ?_; rintro e w1 ⟨rfl, h1, h2⟩)
  go_ret
  exact ⟨rfl, h1, h2⟩

theorem wquo_in (p : Nat) (n m : Int) (w : World) (hg : Good p w) (hn : n.natAbs < big) (hm : m.natAbs < big) (hm0 : m ≠ 0) (ht : TabOf w) :
    Calls Tryz.prog 115 #[.pointer (some ⟨p, 0, none⟩), .string (str n), .string (str m)] w (DoPost p (str (n / m)) w) := by
  have HD := Lib.hid (do_in 151 p (str n) (str m) (str (n / m)) w hg (does_quo hn hm hm0 ht) ent_quo)
  generalize str n = s at *
  generalize str m = t at *
  generalize str (n / m) = q at *
  go_enter Tryz.func115, Tryz.ntmps115
  go_wp2_with (go_at_call 77; refine HD.out.mono ?_; rintro e w1 ⟨rfl, h1, h2⟩)
  go_ret
  exact ⟨rfl, h1, h2⟩
end Go.Proofs.YtppbhnhmaocdnaaGreatDoor
namespace Go.Proofs.YtppbhnhmaocdnaaGreatDoor
open Go.RowKit Go.Shelf

structure RC (R : Nat) (W : World) (a b : Value) : Prop where
  c00 : W.cell? ⟨R, 0, none⟩ = some a
  c01 : W.cell? ⟨R, 1, none⟩ = some b
  f0 : ∀ j, W.frozen? ⟨R, j, none⟩ = false

theorem RC.new (W : World) (t : TypeId) (a b : Value) : RC W.heap.size (W.alloc (.cells #[a, b] t)) a b := ⟨cellAt _ _ _ 0 _ rfl, cellAt _ _ _ 1 _ rfl, fun j => frozenNew _ _ _ j _ rfl⟩
theorem RC.but {R p : Nat} {W W' : World} {a b : Value} (h : RC R W a b) (hb : But p W W') (hp : R ≠ p) : RC R W' a b :=
  ⟨hb.cell hp h.c00, hb.cell hp h.c01, fun j => (World.frozen?_of_block (a := ⟨R, j, none⟩) (hb.block R (ltOf h.c00) hp)).trans (h.f0 j)⟩
theorem RC.below {R : Nat} {W W' : World} {a b : Value} (h : RC R W a b) (hb : Below W.heap.size W W') : RC R W' a b :=
  ⟨Below.get hb h.c00, Below.get hb h.c01, fun j => (hb.frozen (p := ⟨R, j, none⟩) (ltOf h.c00)).trans (h.f0 j)⟩
theorem RC.put {R : Nat} {W : World} {a b : Value} (h : RC R W a b) (a' b' : Value) : RC R ((W.setCell ⟨R, 0, none⟩ a').setCell ⟨R, 1, none⟩ b') a' b' :=
  ⟨setOff (setSame h.c00 _) (by decide) _, setSame (setOff h.c01 (by decide) _) _, fun j => by rw [World.frozen?_setCell, World.frozen?_setCell]; exact h.f0 j⟩

theorem Good.but2 {p R : Nat} {W : World} (h : Good p W) (hp : R ≠ p) (a b : Value) : Good p ((W.setCell ⟨R, 0, none⟩ a).setCell ⟨R, 1, none⟩ b) :=
  ⟨setOther (setOther h.c hp _) hp _, by rw [World.frozen?_setCell, World.frozen?_setCell]; exact h.f⟩

theorem But.put2 {p R : Nat} {w W : World} (h : But p w W) (hR : w.heap.size ≤ R) (a b : Value) : But p w ((W.setCell ⟨R, 0, none⟩ a).setCell ⟨R, 1, none⟩ b) :=
  ⟨h.os, h.tape, h.output, by rw [sizeSet, sizeSet]; exact h.size, fun k hk hp => (Below.heap_setCell _ _ _ _ (by show k ≠ R; omega)).trans ((Below.heap_setCell _ _ _ _ (by show k ≠ R; omega)).trans (h.block k hk hp))⟩

def rnum (n d : Int) : Int := (if d < 0 then -n else n) / (Int.gcd n d : Nat)
def rden (n d : Int) : Int := (if d < 0 then -d else d) / (Int.gcd n d : Nat)

def RedPost (p : Nat) (n d : Int) (w : World) (e : Ending) (w' : World) : Prop := e = .returned (.tuple #[RV (rnum n d) (rden n d), .int .i64 0]) ∧ Good p w' ∧ But p w w'

theorem gcd_ne {n d : Int} (hd : d ≠ 0) : ((Int.gcd n d : Nat) : Int) ≠ 0 := by
  intro h
  have : Int.gcd n d = 0 := by omega
  rw [Int.gcd_eq_zero_iff] at this
  exact hd this.2

set_option maxRecDepth 100000 in
set_option maxHeartbeats 4000000 in
theorem redp_in (B p : Nat) (n d : Int) (w : World) (hg : Good p w) (hn : n.natAbs < big) (hd : d.natAbs < big) (hd0 : 0 < d) (hB : B ≤ p) (ht : TabB B w) :
    Calls Tryz.prog 70 #[.pointer (some ⟨p, 0, none⟩), .string (str n), .string (str d)] w (RedPost p n d w) := by
  have hp := hg.lt
  have hRP : RedPost p n d w = fun e w' => e = .returned (.tuple #[.agg #[.string (str (n / (Int.gcd n d : Nat))), .string (str (d / (Int.gcd n d : Nat)))], .int .i64 0]) ∧ Good p w' ∧ But p w w' := by
    funext e w'; unfold RedPost RV rnum rden; rw [if_neg (by omega), if_neg (by omega)]
  rw [hRP]
  have hcc : cmpI d 0 = 1 := by unfold cmpI; rw [if_neg (by omega), if_pos hd0]
  have HC := fun W => cmp_in d 0 W hd (by rw [big_eq]; exact Nat.pow_pos (by omega))
  rw [hcc, str_zero] at HC
  have h48 : ((str d).toList == [48]) = false := by rw [str_test0]; exact decide_eq_false (by omega)
  have HG := fun W hg' ht' => do_in 93 p (str n) (str d) (str (Int.gcd n d : Nat)) W hg' (does_gcd hn hd ht') ent_gcd
  have HQ1 := fun W hg' ht' => wquo_in p n (Int.gcd n d : Nat) W hg' hn (gcd_big hn hd) (gcd_ne (by omega)) ht'
  have HQ2 := fun W hg' ht' => wquo_in p d (Int.gcd n d : Nat) W hg' hd (gcd_big hn hd) (gcd_ne (by omega)) ht'
  generalize str (n / (Int.gcd n d : Nat)) = q1 at *
  generalize str (d / (Int.gcd n d : Nat)) = q2 at *
  generalize str (Int.gcd n d : Nat) = g at *
  generalize str n = s at *
  generalize str d = t at *
  have HC := Lib.hid HC
  have HG := Lib.hid HG
  have HQ1 := Lib.hid HQ1
  have HQ2 := Lib.hid HQ2
  have r0 := RC.new w 25 (.string ⟨#[]⟩) (.string ⟨#[]⟩)
  have g0 := hg.below (belowNew w (.cells #[.string ⟨#[]⟩, .string ⟨#[]⟩] 25))
  have t0 := ht.grow (belowNew w (.cells #[.string ⟨#[]⟩, .string ⟨#[]⟩] 25)) (by omega)
  have b0 := But.of (p := p) (belowNew w (.cells #[.string ⟨#[]⟩, .string ⟨#[]⟩] 25))
  have e0 := g0.c
  have hne : w.heap.size ≠ p := by omega
  clear hcc hn hd hRP
  go_enter Tryz.func70, Tryz.ntmps70
  go_wp2_with (first
    | (have HA := HC; go_at_call 52; refine (HA.out _).mono ?_; clear HC HA; rintro e w1 ⟨rfl, hb1⟩; have g1 := g0.below hb1; have t1 := t0.grow hb1 (by rw [sizeNew]; omega); have b1 := b0.trans (But.of hb1); have r1 := r0.below hb1; have hs1 := b1.size)
    | (have HA := HG; go_at_call 77; refine (HA.out _ g1 t1.here).mono ?_; clear HG HA; rintro e w2 ⟨rfl, g2, hb2⟩; have t2 := t1.but hb2 hB (by omega); have b2 := b1.trans hb2; have r2 := r1.but hb2 hne; have hs2 := b2.size)
    | (have HA := HQ1; go_at_call 115; refine (HA.out _ g2 t2.here).mono ?_; clear HQ1 HA; rintro e w3 ⟨rfl, g3, hb3⟩; have t3 := t2.but hb3 hB (by omega); have b3 := b2.trans hb3; have r3 := r2.but hb3 hne; have hs3 := b3.size)
    | (have HA := HQ2; go_at_call 115; refine (HA.out _ g3 t3.here).mono ?_; clear HQ2 HA; rintro e w4 ⟨rfl, g4, hb4⟩; have b4 := b3.trans hb4; have r4 := r3.but hb4 hne; have hs4 := b4.size; have k5 := RC.new w4 25 (.string q1) (.string q2); have bn := belowNew w4 (.cells #[.string q1, .string q2] 25); have g5 := g4.below bn; have r5 := r4.below bn; have b5 := b4.trans (But.of bn); have e5 := g5.c; have e6 := k5.c00; have e7 := k5.c01; have e8 := r5.c00; have e9 := r5.c01; have e10 := r5.f0))
  have r6 := r5.put (.string q1) (.string q2)
  refine bodyPost_ret_by (v := .tuple #[.agg #[.string q1, .string q2], .int .i64 0]) (by simp [results, Tryz.f70, go_sem, r6.c00, r6.c01]) rfl ⟨rfl, g5.but2 hne _ _, b5.put2 (Nat.le_refl _) _ _⟩
set_option maxRecDepth 100000 in
set_option maxHeartbeats 4000000 in
theorem redn_in (B p : Nat) (n d : Int) (w : World) (hg : Good p w) (hn : n.natAbs < big) (hd : d.natAbs < big) (hd0 : d < 0) (hB : B ≤ p) (ht : TabB B w) :
    Calls Tryz.prog 70 #[.pointer (some ⟨p, 0, none⟩), .string (str n), .string (str d)] w (RedPost p n d w) := by
  have hp := hg.lt
  have hRP : RedPost p n d w = fun e w' => e = .returned (.tuple #[.agg #[.string (str ((0 - n) / (Int.gcd n d : Nat))), .string (str ((0 - d) / (Int.gcd n d : Nat)))], .int .i64 0]) ∧ Good p w' ∧ But p w w' := by
    funext e w'; unfold RedPost RV rnum rden; rw [if_pos hd0, if_pos hd0, Int.zero_sub, Int.zero_sub]
  rw [hRP]
  have hcc : cmpI d 0 = -1 := by unfold cmpI; rw [if_pos hd0]
  have HC := fun W => cmp_in d 0 W hd (by rw [big_eq]; exact Nat.pow_pos (by omega))
  rw [hcc, str_zero] at HC
  have h48 : ((str d).toList == [48]) = false := by rw [str_test0]; exact decide_eq_false (by omega)
  have hz0 : (0 : Int).natAbs < big := by rw [big_eq]; exact Nat.pow_pos (by omega)
  have hn' : (0 - n).natAbs < big := by omega
  have hd' : (0 - d).natAbs < big := by omega
  have HN := fun W hg' ht' => do_in 45 p (str 0) (str n) (str (0 - n)) W hg' (does_sub hz0 hn hn' ht') ent_sub
  have HDd := fun W hg' ht' => do_in 45 p (str 0) (str d) (str (0 - d)) W hg' (does_sub hz0 hd hd' ht') ent_sub
  rw [str_zero] at HN HDd
  have hgg : Int.gcd (0 - n) (0 - d) = Int.gcd n d := by rw [Int.zero_sub, Int.zero_sub, Int.gcd_neg, Int.neg_gcd]
  have HG := fun W hg' ht' => do_in 93 p (str (0 - n)) (str (0 - d)) (str (Int.gcd n d : Nat)) W hg' (hgg ▸ does_gcd hn' hd' ht') ent_gcd
  have HQ1 := fun W hg' ht' => wquo_in p (0 - n) (Int.gcd n d : Nat) W hg' hn' (gcd_big hn hd) (gcd_ne (by omega)) ht'
  have HQ2 := fun W hg' ht' => wquo_in p (0 - d) (Int.gcd n d : Nat) W hg' hd' (gcd_big hn hd) (gcd_ne (by omega)) ht'
  generalize str ((0 - n) / (Int.gcd n d : Nat)) = q1 at *
  generalize str ((0 - d) / (Int.gcd n d : Nat)) = q2 at *
  generalize str (Int.gcd n d : Nat) = g at *
  generalize str (0 - n) = s' at *
  generalize str (0 - d) = t' at *
  generalize str n = s at *
  generalize str d = t at *
  have HC := Lib.hid HC
  have HN := Lib.hid HN
  have HDd := Lib.hid HDd
  have HG := Lib.hid HG
  have HQ1 := Lib.hid HQ1
  have HQ2 := Lib.hid HQ2
  have r0 := RC.new w 25 (.string ⟨#[]⟩) (.string ⟨#[]⟩)
  have g0 := hg.below (belowNew w (.cells #[.string ⟨#[]⟩, .string ⟨#[]⟩] 25))
  have t0 := ht.grow (belowNew w (.cells #[.string ⟨#[]⟩, .string ⟨#[]⟩] 25)) (by omega)
  have b0 := But.of (p := p) (belowNew w (.cells #[.string ⟨#[]⟩, .string ⟨#[]⟩] 25))
  have e0 := g0.c
  have hne : w.heap.size ≠ p := by omega
  clear hcc hn hd hRP hgg hn' hd' hz0
  go_enter Tryz.func70, Tryz.ntmps70
  go_wp2_with (first
    | (have HA := HC; go_at_call 52; refine (HA.out _).mono ?_; clear HC HA; rintro e w1 ⟨rfl, hb1⟩; have g1 := g0.below hb1; have t1 := t0.grow hb1 (by rw [sizeNew]; omega); have b1 := b0.trans (But.of hb1); have r1 := r0.below hb1; have hs1 := b1.size)
    | (have HA := HN; go_at_call 77; refine (HA.out _ g1 t1.here).mono ?_; clear HN HA; rintro e wa ⟨rfl, ga, hba⟩; have ta := t1.but hba hB (by omega); have ba := b1.trans hba; have ra := r1.but hba hne; have hsa := ba.size)
    | (have HA := HDd; go_at_call 77; refine (HA.out _ ga ta.here).mono ?_; clear HDd HA; clear g1 t1 b1 r1; rintro e wb ⟨rfl, g1, hbb⟩; have t1 := ta.but hbb hB (by omega); have b1 := ba.trans hbb; have r1 := ra.but hbb hne; have hs1 := b1.size)
    | (have HA := HG; go_at_call 77; refine (HA.out _ g1 t1.here).mono ?_; clear HG HA; rintro e w2 ⟨rfl, g2, hb2⟩; have t2 := t1.but hb2 hB (by omega); have b2 := b1.trans hb2; have r2 := r1.but hb2 hne; have hs2 := b2.size)
    | (have HA := HQ1; go_at_call 115; refine (HA.out _ g2 t2.here).mono ?_; clear HQ1 HA; rintro e w3 ⟨rfl, g3, hb3⟩; have t3 := t2.but hb3 hB (by omega); have b3 := b2.trans hb3; have r3 := r2.but hb3 hne; have hs3 := b3.size)
    | (have HA := HQ2; go_at_call 115; refine (HA.out _ g3 t3.here).mono ?_; clear HQ2 HA; rintro e w4 ⟨rfl, g4, hb4⟩; have b4 := b3.trans hb4; have r4 := r3.but hb4 hne; have hs4 := b4.size; have k5 := RC.new w4 25 (.string q1) (.string q2); have bn := belowNew w4 (.cells #[.string q1, .string q2] 25); have g5 := g4.below bn; have r5 := r4.below bn; have b5 := b4.trans (But.of bn); have e5 := g5.c; have e6 := k5.c00; have e7 := k5.c01; have e8 := r5.c00; have e9 := r5.c01; have e10 := r5.f0))
  have r6 := r5.put (.string q1) (.string q2)
  refine bodyPost_ret_by (v := .tuple #[.agg #[.string q1, .string q2], .int .i64 0]) (by simp [results, Tryz.f70, go_sem, r6.c00, r6.c01]) rfl ⟨rfl, g5.but2 hne _ _, b5.put2 (Nat.le_refl _) _ _⟩
theorem reduced_in (B p : Nat) (n d : Int) (w : World) (hg : Good p w) (hn : n.natAbs < big) (hd : d.natAbs < big) (hd0 : d ≠ 0) (hB : B ≤ p) (ht : TabB B w) :
    Calls Tryz.prog 70 #[.pointer (some ⟨p, 0, none⟩), .string (str n), .string (str d)] w (RedPost p n d w) := by
  rcases Int.lt_or_gt_of_ne hd0 with h | h
  · exact redn_in B p n d w hg hn hd h hB ht
  · exact redp_in B p n d w hg hn hd h hB ht
end Go.Proofs.YtppbhnhmaocdnaaGreatDoor
namespace Go.Proofs.YtppbhnhmaocdnaaGreatDoor
open Go.RowKit Go.Shelf

structure Rats (W : World) (b : Nat) (rs : List (Int × Int)) : Prop where
  lt : b < W.heap.size
  num : ∀ (i : Nat) (n d : Int), rs[i]? = some (n, d) → W.cell? ⟨b, i * 2, none⟩ = some (.string (str n))
  den : ∀ (i : Nat) (n d : Int), rs[i]? = some (n, d) → W.cell? ⟨b, i * 2 + 1, none⟩ = some (.string (str d))

theorem Rats.below {W W' : World} {b : Nat} {rs : List (Int × Int)} (h : Rats W b rs) (hb : Below W.heap.size W W') : Rats W' b rs :=
  ⟨Nat.lt_of_lt_of_le h.lt hb.size, fun i n d e => Below.get hb (h.num i n d e), fun i n d e => Below.get hb (h.den i n d e)⟩
theorem Rats.but {W W' : World} {b p : Nat} {rs : List (Int × Int)} (h : Rats W b rs) (hb : But p W W') (hp : b ≠ p) : Rats W' b rs :=
  ⟨Nat.lt_of_lt_of_le h.lt hb.size, fun i n d e => hb.cell hp (h.num i n d e), fun i n d e => hb.cell hp (h.den i n d e)⟩

def AllOk (rs : List (Int × Int)) : Prop := ∀ (i : Nat) (n d : Int), rs[i]? = some (n, d) → n.natAbs < big ∧ d.natAbs < big ∧ RatOk n d = true

def ChkPost (p : Nat) (w : World) (e : Ending) (w' : World) : Prop := e = .returned (.tuple #[]) ∧ Good p w' ∧ But p w w'

set_option maxRecDepth 100000 in
set_option maxHeartbeats 4000000 in
theorem check_in (B p b : Nat) (rs : List (Int × Int)) (w : World) (hg : Good p w) (hr : Rats w b rs) (hl : rs.length ≤ 100) (hok : AllOk rs) (hbp : b ≠ p) (hB : B ≤ p) (ht : TabB B w) :
    Calls Tryz.prog 68 #[.pointer (some ⟨p, 0, none⟩), .slice (some ⟨b, 0, none⟩) rs.length rs.length] w (ChkPost p w) := by
  have HOK := Lib.hid hok
  have hp := hg.lt
  clear hok
  go_enter Tryz.func68, Tryz.ntmps68
  go_wp2
  go_loopw [8] (fun i W => ∃ k : Nat, i = .int .i64 k ∧ k ≤ rs.length ∧ Good p W ∧ Rats W b rs ∧ But p w W) (fun i _ => rs.length - (intOf i).toNat)
  case atStart => exact ⟨0, rfl, Nat.zero_le _, hg, hr, But.refl _ _⟩
  case round =>
    obtain ⟨k, rfl, hk, g1, q1, b1⟩ := hrel
    have hs1 := b1.size
    rcases Nat.lt_or_ge k rs.length with hlt | hge
    · obtain ⟨⟨n, d⟩, hnd⟩ : ∃ x, rs[k]? = some x := ⟨rs[k], List.getElem?_eq_getElem hlt⟩
      have h0 := q1.num k n d hnd
      have h1 := q1.den k n d hnd
      obtain ⟨hn, hd, hro⟩ := HOK.out k n d hnd
      have HV := fun W h => rvalid_in n d W hn hd h
      rw [hro] at HV
      unfold RV at HV
      generalize str n = s at *
      generalize str d = t at *
      have HV := Lib.hid HV
      clear hnd
      have bn := belowNew wr (.cells #[.string s, .string t] 25)
      have k2 := RC.new wr 25 (.string s) (.string t)
      have g2 := g1.below bn
      have b2 := b1.trans (But.of bn)
      have q2 := q1.below bn
      have e0 := g2.c
      have e1 := k2.c00
      have e2 := k2.c01
      have t2 := ht.below (b2.below hB (by have := hp; omega))
      go_wp2_with (go_at_call 50; refine (HV.out _ t2.here).mono ?_; rintro e w3 ⟨rfl, hb3⟩; have g3 := g2.below hb3; have b3 := b2.trans (But.of hb3); have q3 := q2.below hb3; have e3 := g3.c; have e4 := g3.f)
      have b4 := b3.trans (But.set w3 p 0 (.bool false))
      refine ⟨⟨k + 1, by push_cast; rfl, by omega, g3.set, q3.but (But.set w3 p 0 (.bool false)) hbp, b4⟩, ?_⟩
      simp [intOf]
      omega
    · have : k = rs.length := by omega
      subst this
      go_wp2
      go_end0
      exact ⟨rfl, g1, b1⟩
end Go.Proofs.YtppbhnhmaocdnaaGreatDoor
namespace Go.Proofs.YtppbhnhmaocdnaaGreatDoor
open Go.RowKit Go.Shelf

def RatPost (n d : Int) (w : World) (e : Ending) (w' : World) : Prop := e = .returned (.tuple #[RV n d, .int .i64 0]) ∧ Below w.heap.size w w'

theorem RC.belowB {R B : Nat} {W W' : World} {a b : Value} (h : RC R W a b) (hb : Below B W W') (hR : R < B) : RC R W' a b :=
  ⟨(hb.cell (p := ⟨R, 0, none⟩) hR).trans h.c00, (hb.cell (p := ⟨R, 1, none⟩) hR).trans h.c01, fun j => (hb.frozen (p := ⟨R, j, none⟩) hR).trans (h.f0 j)⟩

theorem Good.new (W : World) (t : TypeId) : Good W.heap.size (W.alloc (.cells #[.bool false] t)) := ⟨cellAt _ _ _ 0 _ rfl, frozenNew _ _ _ 0 _ rfl⟩

theorem below_put2 {w W : World} (h : Below w.heap.size w W) (a b : Value) {R : Nat} (hR : w.heap.size ≤ R) : Below w.heap.size w ((W.setCell ⟨R, 0, none⟩ a).setCell ⟨R, 1, none⟩ b) :=
  (h.setCell (p := ⟨R, 0, none⟩) hR _).setCell (p := ⟨R, 1, none⟩) hR _

set_option maxRecDepth 100000 in
set_option maxHeartbeats 4000000 in
theorem make_in (n d : Int) (w : World) (hn : n.natAbs < big) (hd : d.natAbs < big) (hd0 : d ≠ 0) (ht : TabOf w) :
    Calls Tryz.prog 57 #[.string (str n), .string (str d)] w (RatPost (rnum n d) (rden n d) w) := by
  have HV1 := valid_in (str n)
  have HV2 := valid_in (str d)
  rw [vld_str hn] at HV1
  rw [vld_str hd] at HV2
  have HR := fun B p W hg hB ht' => reduced_in B p n d W hg hn hd hd0 hB ht'
  unfold RedPost RV at HR
  unfold RatPost RV
  generalize str (rnum n d) = q1 at *
  generalize str (rden n d) = q2 at *
  generalize str n = s at *
  generalize str d = t at *
  have HV1 := Lib.hid HV1
  have HV2 := Lib.hid HV2
  have HR := Lib.hid HR
  have bn := belowNew w (.cells #[.string ⟨#[]⟩, .string ⟨#[]⟩] 25)
  have r0 := RC.new w 25 (.string ⟨#[]⟩) (.string ⟨#[]⟩)
  clear hn hd hd0
  go_enter Tryz.func57, Tryz.ntmps57
  go_wp2_with (first
    | (have HA := HV1; go_at_call 92; refine (HA.out _).mono ?_; clear HV1 HA; rintro e w1 ⟨rfl, hb1⟩; have b1 := bn.trans (hb1.mono bn.size); have r1 := r0.below hb1)
    | (have HA := HV2; go_at_call 92; refine (HA.out _).mono ?_; clear HV2 HA; rintro e w2 ⟨rfl, hb2⟩; have b2 := b1.trans (hb2.mono b1.size); have r2 := r1.below hb2; have g3 := Good.new w2 89; have bn3 := belowNew w2 (.cells #[.bool false] 89); have b3 := b2.trans (bn3.mono b2.size); have r3 := r2.below bn3; have hs2 := ltOf r2.c00; have t3 := ht.toB.below b3)
    | (go_at_call 70; refine (HR.out w.heap.size w2.heap.size _ g3 (by omega) t3).mono ?_; rintro e w4 ⟨rfl, g4, hb4⟩; have b4 := b3.trans (hb4.below (by omega) b3.size); have r4 := r3.but hb4 (by omega); have e0 := r4.c00; have e1 := r4.c01; have e2 := r4.f0))
  have r5 := r4.put (.string q1) (.string q2)
  refine bodyPost_ret_by (v := .tuple #[.agg #[.string q1, .string q2], .int .i64 0]) (by simp [results, Tryz.f57, go_sem, r5.c00, r5.c01]) rfl ⟨rfl, below_put2 b4 _ _ (Nat.le_refl _)⟩

set_option maxRecDepth 100000 in
set_option maxHeartbeats 4000000 in
theorem of_in (n d : Int) (w : World) (hn : n.natAbs ≤ 1000000000000000000) (hd : d.natAbs ≤ 1000000000000000000) (hd0 : d ≠ 0) (ht : TabOf w) :
    Calls Tryz.prog 36 #[.int .i64 n, .int .i64 d] w (RatPost (rnum n d) (rden n d) w) := by
  have hbig : 1000000000000000000 < big := by rw [big_eq]; exact Nat.lt_of_lt_of_le (show _ < 10 ^ 19 by decide) (Nat.pow_le_pow_right (by omega) (by omega))
  have HI1 := fun W h => fromInt_in n W hn h
  have HI2 := fun W h => fromInt_in d W hd h
  have HR := fun W h => make_in n d W (by omega) (by omega) hd0 h
  unfold RatPost RV at HR
  unfold RatPost RV
  generalize str (rnum n d) = q1 at *
  generalize str (rden n d) = q2 at *
  generalize str n = s at *
  generalize str d = t at *
  have HI1 := Lib.hid HI1
  have HI2 := Lib.hid HI2
  have HR := Lib.hid HR
  have bn := belowNew w (.cells #[.string ⟨#[]⟩, .string ⟨#[]⟩] 25)
  have r0 := RC.new w 25 (.string ⟨#[]⟩) (.string ⟨#[]⟩)
  have hn1 : -9223372036854775808 ≤ n := by omega
  have hn2 : n ≤ 9223372036854775807 := by omega
  go_enter Tryz.func36, Tryz.ntmps36
  go_wp2_with (first
    | (have HA := HI1; go_at_call 81; refine (HA.out _ (ht.below bn)).mono ?_; clear HI1 HA; rintro e w1 ⟨rfl, hb1⟩; have b1 := bn.trans (hb1.mono bn.size); have r1 := r0.below hb1)
    | (have HA := HI2; go_at_call 81; refine (HA.out _ (ht.below b1)).mono ?_; clear HI2 HA; rintro e w2 ⟨rfl, hb2⟩; have b2 := b1.trans (hb2.mono b1.size); have r2 := r1.below hb2)
    | (go_at_call 57; refine (HR.out _ (ht.below b2)).mono ?_; rintro e w3 ⟨rfl, hb3⟩; have b3 := b2.trans (hb3.mono b2.size); have r3 := r2.below hb3; have e0 := r3.c00; have e1 := r3.c01; have e2 := r3.f0))
  have r5 := r3.put (.string q1) (.string q2)
  refine bodyPost_ret_by (v := .tuple #[.agg #[.string q1, .string q2], .int .i64 0]) (by simp [results, Tryz.f36, go_sem, r5.c00, r5.c01]) rfl ⟨rfl, below_put2 b3 _ _ (Nat.le_refl _)⟩
end Go.Proofs.YtppbhnhmaocdnaaGreatDoor
namespace Go.Proofs.YtppbhnhmaocdnaaGreatDoor
open Go.RowKit Go.Shelf

structure RS (w W : World) (s1 t1 s2 t2 : ByteArray) (x y : Value) : Prop where
  a : RC w.heap.size W (.string s1) (.string t1)
  b : RC (w.heap.size + 1) W (.string s2) (.string t2)
  r : RC (w.heap.size + 1 + 1) W x y
  g : Good (w.heap.size + 1 + 1 + 1) W
  l : Below w.heap.size w W
  t : TabB w.heap.size W

theorem RS.but {w W W' : World} {s1 t1 s2 t2 : ByteArray} {x y : Value} (h : RS w W s1 t1 s2 t2 x y) (hb : But (w.heap.size + 1 + 1 + 1) W W') (hg : Good (w.heap.size + 1 + 1 + 1) W') : RS w W' s1 t1 s2 t2 x y :=
  ⟨h.a.but hb (by omega), h.b.but hb (by omega), h.r.but hb (by omega), hg, h.l.trans (hb.below (by omega) h.l.size), h.t.but hb (by omega) h.l.size⟩
theorem RS.below {w W W' : World} {s1 t1 s2 t2 : ByteArray} {x y : Value} (h : RS w W s1 t1 s2 t2 x y) (hb : Below W.heap.size W W') : RS w W' s1 t1 s2 t2 x y :=
  ⟨h.a.below hb, h.b.below hb, h.r.below hb, h.g.below hb, h.l.trans (hb.mono h.l.size), h.t.grow hb h.l.size⟩

theorem RS.start {w : World} (ht : TabOf w) (s1 t1 s2 t2 : ByteArray) (x y : Value) (T U : TypeId) :
    RS w ((((w.alloc (.cells #[.string s1, .string t1] T)).alloc (.cells #[.string s2, .string t2] T)).alloc (.cells #[x, y] T)).alloc (.cells #[.bool false] U)) s1 t1 s2 t2 x y := by
  have b1 := belowNew w (.cells #[.string s1, .string t1] T)
  have b2 := belowNew (w.alloc (.cells #[.string s1, .string t1] T)) (.cells #[.string s2, .string t2] T)
  have b3 := belowNew ((w.alloc (.cells #[.string s1, .string t1] T)).alloc (.cells #[.string s2, .string t2] T)) (.cells #[x, y] T)
  have b4 := belowNew (((w.alloc (.cells #[.string s1, .string t1] T)).alloc (.cells #[.string s2, .string t2] T)).alloc (.cells #[x, y] T)) (.cells #[.bool false] U)
  have k1 := ((RC.new w T (.string s1) (.string t1)).below b2).below b3 |>.below b4
  have k2 := ((RC.new (w.alloc (.cells #[.string s1, .string t1] T)) T (.string s2) (.string t2)).below b3).below b4
  have k3 := (RC.new ((w.alloc (.cells #[.string s1, .string t1] T)).alloc (.cells #[.string s2, .string t2] T)) T x y).below b4
  have k4 := Good.new (((w.alloc (.cells #[.string s1, .string t1] T)).alloc (.cells #[.string s2, .string t2] T)).alloc (.cells #[x, y] T)) U
  rw [sizeNew] at k2
  rw [sizeNew, sizeNew] at k3
  rw [sizeNew, sizeNew, sizeNew] at k4
  have l : Below w.heap.size w ((((w.alloc (.cells #[.string s1, .string t1] T)).alloc (.cells #[.string s2, .string t2] T)).alloc (.cells #[x, y] T)).alloc (.cells #[.bool false] U)) :=
    ((b1.trans (b2.mono b1.size)).trans (b3.mono (by rw [sizeNew, sizeNew]; omega))).trans (b4.mono (by rw [sizeNew, sizeNew, sizeNew]; omega))
  exact ⟨k1, k2, k3, k4, l, ht.toB.below l⟩

theorem rats_two (W : World) (T : TypeId) (n1 d1 n2 d2 : Int) : Rats (W.alloc (.cells #[.string (str n1), .string (str d1), .string (str n2), .string (str d2)] T)) W.heap.size [(n1, d1), (n2, d2)] := by
  refine ⟨by rw [sizeNew]; omega, ?_, ?_⟩
  · intro i n d h
    match i, h with
    | 0, h => cases h; exact cellAt _ _ _ 0 _ rfl
    | 1, h => cases h; exact cellAt _ _ _ 2 _ rfl
  · intro i n d h
    match i, h with
    | 0, h => cases h; exact cellAt _ _ _ 1 _ rfl
    | 1, h => cases h; exact cellAt _ _ _ 3 _ rfl

theorem ok_two {n1 d1 n2 d2 : Int} (h1 : n1.natAbs < big ∧ d1.natAbs < big ∧ RatOk n1 d1 = true) (h2 : n2.natAbs < big ∧ d2.natAbs < big ∧ RatOk n2 d2 = true) : AllOk [(n1, d1), (n2, d2)] := by
  intro i n d h
  match i, h with
  | 0, h => cases h; exact h1
  | 1, h => cases h; exact h2

theorem But.of_drew {p : Nat} {A B : World} (h : But p A.drew B) : But p A B := ⟨h.os, h.tape, h.output, h.size, h.block⟩

def IsR (n d : Int) : Prop := n.natAbs < big ∧ d.natAbs < big ∧ RatOk n d = true
theorem IsR.pos {n d : Int} (h : IsR n d) : 0 < d := by
  have := h.2.2; unfold RatOk at this; simp at this; exact this.1

set_option maxRecDepth 100000 in
set_option maxHeartbeats 4000000 in
theorem rdiv_in (n1 d1 n2 d2 : Int) (w : World) (h1 : IsR n1 d1) (h2 : IsR n2 d2) (hz : n2 ≠ 0) (hn : (n1 * d2).natAbs < big) (hd : (d1 * n2).natAbs < big) (ht : TabOf w) :
    Calls Tryz.prog 25 #[RV n1 d1, RV n2 d2] w (RatPost (rnum (n1 * d2) (d1 * n2)) (rden (n1 * d2) (d1 * n2)) w) := by
  have hd0 : d1 * n2 ≠ 0 := by have := h1.pos; intro h; rcases Int.mul_eq_zero.1 h with h | h <;> omega
  have HCK := fun W b hg hr hb hB ht' => check_in w.heap.size (w.heap.size + 1 + 1 + 1) b [(n1, d1), (n2, d2)] W hg hr (by simp) (ok_two h1 h2) hb hB ht'
  have HM1 := fun p W hg ht' => wmul_in p n1 d2 W hg h1.1 h2.2.1 hn ht'
  have HM2 := fun p W hg ht' => wmul_in p d1 n2 W hg h1.2.1 h2.1 hd ht'
  have HR := fun B p W hg hB ht' => reduced_in B p (n1 * d2) (d1 * n2) W hg hn hd hd0 hB ht'
  have HRT := fun W => rats_two W 25 n1 d1 n2 d2
  unfold RedPost RV at HR
  unfold RatPost RV
  generalize str (rnum (n1 * d2) (d1 * n2)) = q1 at *
  generalize str (rden (n1 * d2) (d1 * n2)) = q2 at *
  generalize str (n1 * d2) = m1 at *
  generalize str (d1 * n2) = m2 at *
  generalize str n1 = s1 at *
  generalize str d1 = t1 at *
  generalize str n2 = s2 at *
  generalize str d2 = t2 at *
  have z0 := RS.start ht s1 t1 s2 t2 (.string ⟨#[]⟩) (.string ⟨#[]⟩) 25 89
  obtain ⟨W0, hW0⟩ : ∃ W0, W0 = ((((w.alloc (.cells #[.string s1, .string t1] 25)).alloc (.cells #[.string s2, .string t2] 25)).alloc (.cells #[.string ⟨#[]⟩, .string ⟨#[]⟩] 25)).alloc (.cells #[.bool false] 89)) := ⟨_, rfl⟩
  have hsz : W0.heap.size = w.heap.size + 1 + 1 + 1 + 1 := by rw [hW0, sizeNew, sizeNew, sizeNew, sizeNew]
  have rt := HRT W0
  have bn := belowNew W0 (.cells #[.string s1, .string t1, .string s2, .string t2] 25)
  rw [hsz] at rt
  rw [← hW0] at z0
  have z1 := z0.below bn
  have x1 := HCK _ _ z1.g rt (by omega) (by omega) z1.t
  rw [hW0] at x1 z1
  have HX := Lib.hid x1
  have c1 := z1.a.c00
  have c2 := z1.a.c01
  have c3 := z1.b.c00
  have c4 := z1.b.c01
  clear HCK rt bn hsz z0 HRT x1
  clear hW0
  have HM1 := Lib.hid HM1
  have HM2 := Lib.hid HM2
  have HR := Lib.hid HR
  clear hn hd hd0 h1 h2
  go_enter Tryz.func25, Tryz.ntmps25
  go_wp2_with (first
    | (go_at_call 68; refine HX.out.mono ?_; rintro e w2 ⟨rfl, g2, b2⟩; have z2 := z1.but b2 g2; have c1 := z2.a.c00; have c2 := z2.a.c01; have c3 := z2.b.c00; have c4 := z2.b.c01)
    | (have HA := HM1; go_at_call 69; refine (HA.out _ _ z2.g z2.t.here).mono ?_; clear HM1 HA; rintro e w3 ⟨rfl, g3, b3⟩; have z3 := z2.but b3 g3; have c1 := z3.a.c00; have c2 := z3.a.c01; have c3 := z3.b.c00; have c4 := z3.b.c01)
    | (have HA := HM2; go_at_call 69; refine (HA.out _ _ z3.g z3.t.here).mono ?_; clear HM2 HA; rintro e w4 ⟨rfl, g4, b4⟩; have z4 := z3.but b4 g4)
    | (go_at_call 70; refine (HR.out w.heap.size (w.heap.size + 1 + 1 + 1) _ z4.g (by omega) z4.t).mono ?_; rintro e w5 ⟨rfl, g5, b5⟩; have z5 := z4.but b5 g5; have e0 := z5.r.c00; have e1 := z5.r.c01; have e2 := z5.r.f0))
  have r5 := z5.r.put (.string q1) (.string q2)
  refine bodyPost_ret_by (v := .tuple #[.agg #[.string q1, .string q2], .int .i64 0]) (by simp [results, Tryz.f25, go_sem, r5.c00, r5.c01]) rfl ⟨rfl, below_put2 z5.l _ _ (by omega)⟩

set_option maxRecDepth 100000 in
set_option maxHeartbeats 4000000 in
theorem rsum_in (f : Nat) (op : Int → Int → Int) (eg : ∀ args w, (callFunc f args).run Tryz.prog w = .ok (.enter f args) w) (n1 d1 n2 d2 : Int) (w : World) (h1 : IsR n1 d1) (h2 : IsR n2 d2)
    (hf : ∀ W, TabOf W → Does f (str (n1 * d2)) (str (n2 * d1)) (str (op (n1 * d2) (n2 * d1))) W)
    (ha : (n1 * d2).natAbs < big) (hb : (n2 * d1).natAbs < big) (hn : (op (n1 * d2) (n2 * d1)).natAbs < big) (hd : (d1 * d2).natAbs < big) (ht : TabOf w) :
    Calls Tryz.prog 34 #[.func (.func f) #[] #[], RV n1 d1, RV n2 d2] w (RatPost (rnum (op (n1 * d2) (n2 * d1)) (d1 * d2)) (rden (op (n1 * d2) (n2 * d1)) (d1 * d2)) w) := by
  have hd0 : d1 * d2 ≠ 0 := by have := Int.mul_pos h1.pos h2.pos; omega
  have HCK := fun W b hg hr hb hB ht' => check_in w.heap.size (w.heap.size + 1 + 1 + 1) b [(n1, d1), (n2, d2)] W hg hr (by simp) (ok_two h1 h2) hb hB ht'
  have HMA := fun p W hg ht' => wmul_in p n1 d2 W hg h1.1 h2.2.1 ha ht'
  have HMB := fun p W hg ht' => wmul_in p n2 d1 W hg h2.1 h1.2.1 hb ht'
  have HM2 := fun p W hg ht' => wmul_in p d1 d2 W hg h1.2.1 h2.2.1 hd ht'
  have HDO := fun p W hg ht' => do_in f p (str (n1 * d2)) (str (n2 * d1)) (str (op (n1 * d2) (n2 * d1))) W hg (hf W ht') eg
  have HR := fun B p W hg hB ht' => reduced_in B p (op (n1 * d2) (n2 * d1)) (d1 * d2) W hg hn hd hd0 hB ht'
  have HRT := fun W => rats_two W 25 n1 d1 n2 d2
  unfold RedPost RV at HR
  unfold RatPost RV
  generalize op (n1 * d2) (n2 * d1) = o at *
  generalize str (rnum o (d1 * d2)) = q1 at *
  generalize str (rden o (d1 * d2)) = q2 at *
  generalize str o = m1 at *
  generalize str (n1 * d2) = ma at *
  generalize str (n2 * d1) = mb at *
  generalize str (d1 * d2) = m2 at *
  generalize str n1 = s1 at *
  generalize str d1 = t1 at *
  generalize str n2 = s2 at *
  generalize str d2 = t2 at *
  have z0 := RS.start ht s1 t1 s2 t2 (.string ⟨#[]⟩) (.string ⟨#[]⟩) 25 89
  obtain ⟨W0, hW0⟩ : ∃ W0, W0 = ((((w.alloc (.cells #[.string s1, .string t1] 25)).alloc (.cells #[.string s2, .string t2] 25)).alloc (.cells #[.string ⟨#[]⟩, .string ⟨#[]⟩] 25)).alloc (.cells #[.bool false] 89)) := ⟨_, rfl⟩
  have hsz : W0.heap.size = w.heap.size + 1 + 1 + 1 + 1 := by rw [hW0, sizeNew, sizeNew, sizeNew, sizeNew]
  have rt := HRT W0
  have bn := belowNew W0 (.cells #[.string s1, .string t1, .string s2, .string t2] 25)
  rw [hsz] at rt
  rw [← hW0] at z0
  have z1 := z0.below bn
  have x1 := HCK _ _ z1.g rt (by omega) (by omega) z1.t
  rw [hW0] at x1 z1
  have HX := Lib.hid x1
  have c1 := z1.a.c00
  have c2 := z1.a.c01
  have c3 := z1.b.c00
  have c4 := z1.b.c01
  clear HCK rt bn hsz z0 HRT x1
  clear hW0
  have HMA := Lib.hid HMA
  have HMB := Lib.hid HMB
  have HM2 := Lib.hid HM2
  have HDO := Lib.hid HDO
  have HR := Lib.hid HR
  clear hn hd hd0 h1 h2 ha hb hf
  go_enter Tryz.func34, Tryz.ntmps34
  go_wp2_with (first
    | (go_at_call 68; refine HX.out.mono ?_; rintro e w2 ⟨rfl, g2, b2⟩; have z2 := z1.but b2 g2; have c1 := z2.a.c00; have c2 := z2.a.c01; have c3 := z2.b.c00; have c4 := z2.b.c01))
  go_region_held3 (fun W => W.cell? ⟨w.heap.size, 0, none⟩ = some (.string s1) ∧ W.cell? ⟨w.heap.size, 1, none⟩ = some (.string t1) ∧ W.cell? ⟨w.heap.size + 1, 0, none⟩ = some (.string s2) ∧ W.cell? ⟨w.heap.size + 1, 1, none⟩ = some (.string t2))
    (first | exact ⟨c1, c2, c3, c4⟩ | exact ⟨za.a.c00, za.a.c01, za.b.c00, za.b.c01⟩ | exact ⟨zb.a.c00, zb.a.c01, zb.b.c00, zb.b.c01⟩ | exact ⟨z3.a.c00, z3.a.c01, z3.b.c00, z3.b.c01⟩) (first
    | (have HA := HMA; go_at_call 69; refine (HA.out _ (World.drew w2) ⟨z2.g.c, z2.g.f⟩ (by exact z2.t.here)).mono ?_; clear HMA HA; rintro e wa ⟨rfl, ga, ba⟩; have za := z2.but (But.of_drew ba) ga)
    | (have HA := HMB; go_at_call 69; refine (HA.out _ _ za.g za.t.here).mono ?_; clear HMB HA; rintro e wb ⟨rfl, gb, bb⟩; have zb := za.but bb gb)
    | (go_at_call 77; refine (HDO.out _ _ zb.g zb.t.here).mono ?_; rintro e w3 ⟨rfl, g3, b3⟩; have z3 := zb.but b3 g3))
  have c1 := z3.a.c00
  have c2 := z3.a.c01
  have c3 := z3.b.c00
  have c4 := z3.b.c01
  go_wp2_with (first
    | (have HA := HM2; go_at_call 69; refine (HA.out _ _ z3.g z3.t.here).mono ?_; clear HM2 HA; rintro e w4 ⟨rfl, g4, b4⟩; have z4 := z3.but b4 g4)
    | (go_at_call 70; refine (HR.out w.heap.size (w.heap.size + 1 + 1 + 1) _ z4.g (by omega) z4.t).mono ?_; rintro e w5 ⟨rfl, g5, b5⟩; have z5 := z4.but b5 g5; have e0 := z5.r.c00; have e1 := z5.r.c01; have e2 := z5.r.f0))
  have r5 := z5.r.put (.string q1) (.string q2)
  refine bodyPost_ret_by (v := .tuple #[.agg #[.string q1, .string q2], .int .i64 0]) (by simp [results, Tryz.f34, go_sem, r5.c00, r5.c01]) rfl ⟨rfl, below_put2 z5.l _ _ (by omega)⟩
end Go.Proofs.YtppbhnhmaocdnaaGreatDoor
namespace Go.Proofs.YtppbhnhmaocdnaaGreatDoor
open Go.RowKit Go.Shelf

structure R3 (w W : World) (s1 t1 s2 t2 : ByteArray) (x y : Value) : Prop where
  a : RC w.heap.size W (.string s1) (.string t1)
  b : RC (w.heap.size + 1) W (.string s2) (.string t2)
  r : RC (w.heap.size + 1 + 1) W x y
  l : Below w.heap.size w W
  t : TabOf W
theorem R3.below {w W W' : World} {s1 t1 s2 t2 : ByteArray} {x y : Value} (h : R3 w W s1 t1 s2 t2 x y) (hb : Below W.heap.size W W') : R3 w W' s1 t1 s2 t2 x y :=
  ⟨h.a.below hb, h.b.below hb, h.r.below hb, h.l.trans (hb.mono h.l.size), h.t.below hb⟩
theorem R3.start {w : World} (ht : TabOf w) (s1 t1 s2 t2 : ByteArray) (x y : Value) (T : TypeId) :
    R3 w (((w.alloc (.cells #[.string s1, .string t1] T)).alloc (.cells #[.string s2, .string t2] T)).alloc (.cells #[x, y] T)) s1 t1 s2 t2 x y := by
  have b1 := belowNew w (.cells #[.string s1, .string t1] T)
  have b2 := belowNew (w.alloc (.cells #[.string s1, .string t1] T)) (.cells #[.string s2, .string t2] T)
  have b3 := belowNew ((w.alloc (.cells #[.string s1, .string t1] T)).alloc (.cells #[.string s2, .string t2] T)) (.cells #[x, y] T)
  have k1 := ((RC.new w T (.string s1) (.string t1)).below b2).below b3
  have k2 := (RC.new (w.alloc (.cells #[.string s1, .string t1] T)) T (.string s2) (.string t2)).below b3
  have k3 := RC.new ((w.alloc (.cells #[.string s1, .string t1] T)).alloc (.cells #[.string s2, .string t2] T)) T x y
  rw [sizeNew] at k2
  rw [sizeNew, sizeNew] at k3
  have l := (b1.trans (b2.mono b1.size)).trans (b3.mono (by rw [sizeNew, sizeNew]; omega))
  exact ⟨k1, k2, k3, l, ht.below l⟩

set_option maxRecDepth 100000 in
set_option maxHeartbeats 4000000 in
theorem radd_in (n1 d1 n2 d2 : Int) (w : World) (h1 : IsR n1 d1) (h2 : IsR n2 d2) (ha : (n1 * d2).natAbs < big) (hb : (n2 * d1).natAbs < big) (hn : (n1 * d2 + n2 * d1).natAbs < big) (hd : (d1 * d2).natAbs < big) (ht : TabOf w) :
    Calls Tryz.prog 11 #[RV n1 d1, RV n2 d2] w (RatPost (rnum (n1 * d2 + n2 * d1) (d1 * d2)) (rden (n1 * d2 + n2 * d1) (d1 * d2)) w) := by
  have HS := fun W h => rsum_in 35 (fun x y => x + y) ent_add n1 d1 n2 d2 W h1 h2 (fun W h => does_add ha hb hn h) ha hb hn hd h
  unfold RatPost RV at HS
  unfold RatPost RV
  generalize str (rnum (n1 * d2 + n2 * d1) (d1 * d2)) = q1 at *
  generalize str (rden (n1 * d2 + n2 * d1) (d1 * d2)) = q2 at *
  generalize str n1 = s1 at *
  generalize str d1 = t1 at *
  generalize str n2 = s2 at *
  generalize str d2 = t2 at *
  have z0 := R3.start ht s1 t1 s2 t2 (.string ⟨#[]⟩) (.string ⟨#[]⟩) 25
  have c1 := z0.a.c00
  have c2 := z0.a.c01
  have c3 := z0.b.c00
  have c4 := z0.b.c01
  have HS := Lib.hid HS
  clear ha hb hn hd h1 h2
  go_enter Tryz.func11, Tryz.ntmps11
  go_wp2_with (first
    | (go_at_call 34; refine (HS.out _ z0.t).mono ?_; rintro e w2 ⟨rfl, hb2⟩; have z2 := z0.below hb2; have e0 := z2.r.c00; have e1 := z2.r.c01; have e2 := z2.r.f0))
  have r5 := z2.r.put (.string q1) (.string q2)
  refine bodyPost_ret_by (v := .tuple #[.agg #[.string q1, .string q2], .int .i64 0]) (by simp [results, Tryz.f11, go_sem, r5.c00, r5.c01]) rfl ⟨rfl, below_put2 z2.l _ _ (by omega)⟩

set_option maxRecDepth 100000 in
set_option maxHeartbeats 4000000 in
theorem rsub_in (n1 d1 n2 d2 : Int) (w : World) (h1 : IsR n1 d1) (h2 : IsR n2 d2) (ha : (n1 * d2).natAbs < big) (hb : (n2 * d1).natAbs < big) (hn : (n1 * d2 - n2 * d1).natAbs < big) (hd : (d1 * d2).natAbs < big) (ht : TabOf w) :
    Calls Tryz.prog 15 #[RV n1 d1, RV n2 d2] w (RatPost (rnum (n1 * d2 - n2 * d1) (d1 * d2)) (rden (n1 * d2 - n2 * d1) (d1 * d2)) w) := by
  have HS := fun W h => rsum_in 45 (fun x y => x - y) ent_sub n1 d1 n2 d2 W h1 h2 (fun W h => does_sub ha hb hn h) ha hb hn hd h
  unfold RatPost RV at HS
  unfold RatPost RV
  generalize str (rnum (n1 * d2 - n2 * d1) (d1 * d2)) = q1 at *
  generalize str (rden (n1 * d2 - n2 * d1) (d1 * d2)) = q2 at *
  generalize str n1 = s1 at *
  generalize str d1 = t1 at *
  generalize str n2 = s2 at *
  generalize str d2 = t2 at *
  have z0 := R3.start ht s1 t1 s2 t2 (.string ⟨#[]⟩) (.string ⟨#[]⟩) 25
  have c1 := z0.a.c00
  have c2 := z0.a.c01
  have c3 := z0.b.c00
  have c4 := z0.b.c01
  have HS := Lib.hid HS
  clear ha hb hn hd h1 h2
  go_enter Tryz.func15, Tryz.ntmps15
  go_wp2_with (first
    | (go_at_call 34; refine (HS.out _ z0.t).mono ?_; rintro e w2 ⟨rfl, hb2⟩; have z2 := z0.below hb2; have e0 := z2.r.c00; have e1 := z2.r.c01; have e2 := z2.r.f0))
  have r5 := z2.r.put (.string q1) (.string q2)
  refine bodyPost_ret_by (v := .tuple #[.agg #[.string q1, .string q2], .int .i64 0]) (by simp [results, Tryz.f15, go_sem, r5.c00, r5.c01]) rfl ⟨rfl, below_put2 z2.l _ _ (by omega)⟩
end Go.Proofs.YtppbhnhmaocdnaaGreatDoor
namespace Go.Proofs.YtppbhnhmaocdnaaGreatDoor
open Go.RowKit Go.Shelf

theorem dec_ten (p : Nat) : Lib.decDigits (10 ^ p) = 49 :: List.replicate p 48 := by
  induction p with
  | zero => rw [Nat.pow_zero, dec_small (by omega)]; rfl
  | succ p ih =>
    have h1 : 10 ≤ 10 ^ (p + 1) := by rw [Nat.pow_succ]; have := Nat.pow_pos (n := p) (show 0 < 10 by omega); omega
    rw [dec_big h1, Nat.pow_succ, Nat.mul_div_cancel _ (by omega), ih, Nat.mul_mod_left, List.replicate_succ']
    rfl
theorem str_ten (p : Nat) : str ((10 ^ p : Nat) : Int) = ⟨(49 :: List.replicate p 48).toArray⟩ := by rw [str, itoa_nat, dec_ten]

structure RO (w W : World) (s t : ByteArray) (x y : Value) : Prop where
  a : RC w.heap.size W (.string s) (.string t)
  r : RC (w.heap.size + 1) W x y
  g : Good (w.heap.size + 1 + 1) W
  l : Below w.heap.size w W
  t : TabB w.heap.size W

theorem RO.but {w W W' : World} {s t : ByteArray} {x y : Value} (h : RO w W s t x y) (hb : But (w.heap.size + 1 + 1) W W') (hg : Good (w.heap.size + 1 + 1) W') : RO w W' s t x y :=
  ⟨h.a.but hb (by omega), h.r.but hb (by omega), hg, h.l.trans (hb.below (by omega) h.l.size), h.t.but hb (by omega) h.l.size⟩
theorem RO.below {w W W' : World} {s t : ByteArray} {x y : Value} (h : RO w W s t x y) (hb : Below W.heap.size W W') : RO w W' s t x y :=
  ⟨h.a.below hb, h.r.below hb, h.g.below hb, h.l.trans (hb.mono h.l.size), h.t.grow hb h.l.size⟩
theorem RO.start {w : World} (ht : TabOf w) (s t : ByteArray) (x y : Value) (T U : TypeId) :
    RO w (((w.alloc (.cells #[.string s, .string t] T)).alloc (.cells #[x, y] T)).alloc (.cells #[.bool false] U)) s t x y := by
  have b1 := belowNew w (.cells #[.string s, .string t] T)
  have b2 := belowNew (w.alloc (.cells #[.string s, .string t] T)) (.cells #[x, y] T)
  have b3 := belowNew ((w.alloc (.cells #[.string s, .string t] T)).alloc (.cells #[x, y] T)) (.cells #[.bool false] U)
  have k1 := ((RC.new w T (.string s) (.string t)).below b2).below b3
  have k2 := (RC.new (w.alloc (.cells #[.string s, .string t] T)) T x y).below b3
  have k3 := Good.new ((w.alloc (.cells #[.string s, .string t] T)).alloc (.cells #[x, y] T)) U
  rw [sizeNew] at k2
  rw [sizeNew, sizeNew] at k3
  have l := (b1.trans (b2.mono b1.size)).trans (b3.mono (by rw [sizeNew, sizeNew]; omega))
  exact ⟨k1, k2, k3, l, ht.toB.below l⟩

theorem rats_one (W : World) (T : TypeId) (n d : Int) : Rats (W.alloc (.cells #[.string (str n), .string (str d)] T)) W.heap.size [(n, d)] := by
  refine ⟨by rw [sizeNew]; omega, ?_, ?_⟩
  · intro i n' d' h
    match i, h with
    | 0, h => cases h; exact cellAt _ _ _ 0 _ rfl
  · intro i n' d' h
    match i, h with
    | 0, h => cases h; exact cellAt _ _ _ 1 _ rfl
theorem ok_one {n d : Int} (h : IsR n d) : AllOk [(n, d)] := by
  intro i n' d' h'
  match i, h' with
  | 0, h' => cases h'; exact h

def gridN (up : Bool) (n d : Int) (t : Int) : Int := if up && !decide (n * t % d = 0) then n * t / d + 1 else n * t / d

theorem zeros_any (c : Nat) (hc : c ≤ 1000) (w : World) :
    Calls Tryz.prog 89 #[.string ⟨#[48]⟩, .int .i64 c] w fun e w' => e = .returned (.string ⟨(List.replicate c 48).toArray⟩) ∧ Below w.heap.size w w' := zeros_in c hc w

set_option maxRecDepth 100000 in
set_option maxHeartbeats 4000000 in
theorem round_dn (n d : Int) (p : Nat) (w : World) (h1 : IsR n d) (hp : p ≤ 30) (hn : (n * (10 ^ p : Nat)).natAbs < big) (ht : TabOf w) :
    Calls Tryz.prog 144 #[RV n d, .int .i64 p, .bool false] w (RatPost (rnum (gridN false n d (10 ^ p : Nat)) (10 ^ p : Nat)) (rden (gridN false n d (10 ^ p : Nat)) (10 ^ p : Nat)) w) := by
  have hT0 : 0 < 10 ^ p := Nat.pow_pos (by omega)
  have hTb : 10 ^ p < big := by rw [big_eq]; exact Nat.pow_lt_pow_right (by omega) (by omega)
  have hST := str_ten p
  generalize (10 ^ p : Nat) = T at *
  have hdp := h1.pos
  have hsm := div_small (n := n * T) (m := d) (by omega) hn h1.2.1
  have hg0 : gridN false n d T = n * T / d := by unfold gridN; rfl
  rw [hg0]
  have HCK := fun W b hg hr hb hB ht' => check_in w.heap.size (w.heap.size + 1 + 1) b [(n, d)] W hg hr (by simp) (ok_one h1) hb hB ht'
  have HM := fun q W hg ht' => wmul_in q n T W hg h1.1 (by simpa using hTb) hn ht'
  have HD := fun W ht' => div_in (n * T) d W hn h1.2.1 ht' (by omega)
  have HR := fun B q W hg hB ht' => reduced_in B q (n * T / d) T W hg hsm.1 (by simpa using hTb) (by omega) hB ht'
  have HRT := fun W => rats_one W 25 n d
  unfold RedPost RV at HR
  unfold DivPost at HD
  unfold RatPost RV
  generalize str (rnum (n * T / d) T) = q1 at *
  generalize str (rden (n * T / d) T) = q2 at *
  generalize str (n * T / d) = m1 at *
  generalize str (n * T % d) = m2 at *
  generalize str (n * T) = m3 at *
  generalize str (T : Int) = tt at *
  generalize str n = s1 at *
  generalize str d = t1 at *
  have z0 := RO.start ht s1 t1 (.string ⟨#[]⟩) (.string ⟨#[]⟩) 25 89
  obtain ⟨W0, hW0⟩ : ∃ W0, W0 = (((w.alloc (.cells #[.string s1, .string t1] 25)).alloc (.cells #[.string ⟨#[]⟩, .string ⟨#[]⟩] 25)).alloc (.cells #[.bool false] 89)) := ⟨_, rfl⟩
  have hsz : W0.heap.size = w.heap.size + 1 + 1 + 1 := by rw [hW0, sizeNew, sizeNew, sizeNew]
  have rt := HRT W0
  have bn := belowNew W0 (.cells #[.string s1, .string t1] 25)
  rw [hsz] at rt
  rw [← hW0] at z0
  have z1 := z0.below bn
  have x1 := HCK _ _ z1.g rt (by omega) (by omega) z1.t
  rw [hW0] at x1 z1
  have HX := Lib.hid x1
  have c1 := z1.a.c00
  have c2 := z1.a.c01
  have c3 := z1.g.c
  have HST : Hid (({ data := #[49] } ++ { data := Array.replicate p 48 } : ByteArray) = tt) := Lib.hid (by rw [hST]; apply ByteArray.ext; simp)
  clear HCK rt bn hsz z0 HRT x1 hW0 hST
  have HM := Lib.hid HM
  have HD := Lib.hid HD
  have HR := Lib.hid HR
  have hlo : decide ((p : Int) < 0) = false := decide_eq_false (by omega)
  have hhi : decide ((30 : Int) < (p : Int)) = false := decide_eq_false (by omega)
  have hrep : ¬ (9223372036854775807 < 1 + p) := by omega
  clear hn h1 hsm hTb hT0 hg0 hdp
  go_enter Tryz.func144, Tryz.ntmps144
  go_wp2_with (first
    | (go_at_call 68; refine HX.out.mono ?_; rintro e w2 ⟨rfl, g2, b2⟩; have z2 := z1.but b2 g2; have c1 := z2.a.c00; have c2 := z2.a.c01; have c3 := z2.g.c)
    | (go_at_call 89; refine (zeros_any p (by omega) _).mono ?_; rintro e w3 ⟨rfl, hb3⟩; have z3 := z2.below hb3; have c1 := z3.a.c00; have c2 := z3.a.c01; have c3 := z3.g.c)
    | (go_at_call 69; rw [HST.out]; refine (HM.out _ _ z3.g z3.t.here).mono ?_; rintro e w4 ⟨rfl, g4, b4⟩; have z4 := z3.but b4 g4; have c1 := z4.a.c00; have c2 := z4.a.c01; have c3 := z4.g.c)
    | (go_at_call 51; refine (HD.out _ z4.t.here).mono ?_; rintro e w5 ⟨rfl, hb5⟩; have z5 := z4.below hb5; have c1 := z5.a.c00; have c2 := z5.a.c01; have c3 := z5.g.c; have c4 := z5.g.f; have z6 := z5.but (But.set w5 (w.heap.size + 1 + 1) 0 (.bool false)) z5.g.set; have c5 := z6.g.c)
    | (go_at_call 70; refine (HR.out w.heap.size (w.heap.size + 1 + 1) _ z6.g (by omega) z6.t).mono ?_; rintro e w7 ⟨rfl, g7, b7⟩; have z7 := z6.but b7 g7; have e0 := z7.r.c00; have e1 := z7.r.c01; have e2 := z7.r.f0))
  have r5 := z7.r.put (.string q1) (.string q2)
  refine bodyPost_ret_by (v := .tuple #[.agg #[.string q1, .string q2], .int .i64 0]) (by simp [results, Tryz.f144, go_sem, r5.c00, r5.c01]) rfl ⟨rfl, below_put2 z7.l _ _ (by omega)⟩
set_option maxRecDepth 100000 in
set_option maxHeartbeats 4000000 in
theorem round_up0 (n d : Int) (p : Nat) (w : World) (h1 : IsR n d) (hp : p ≤ 30) (hr0 : n * (10 ^ p : Nat) % d = 0) (hn : (n * (10 ^ p : Nat)).natAbs < big) (ht : TabOf w) :
    Calls Tryz.prog 144 #[RV n d, .int .i64 p, .bool true] w (RatPost (rnum (gridN true n d (10 ^ p : Nat)) (10 ^ p : Nat)) (rden (gridN true n d (10 ^ p : Nat)) (10 ^ p : Nat)) w) := by
  have hT0 : 0 < 10 ^ p := Nat.pow_pos (by omega)
  have hTb : 10 ^ p < big := by rw [big_eq]; exact Nat.pow_lt_pow_right (by omega) (by omega)
  have hST := str_ten p
  generalize (10 ^ p : Nat) = T at *
  have hdp := h1.pos
  have hsm := div_small (n := n * T) (m := d) (by omega) hn h1.2.1
  have hg0 : gridN true n d T = n * T / d := by unfold gridN; rw [decide_eq_true hr0]; rfl
  rw [hg0]
  have h48 : ((str (n * T % d)).toList == [48]) = true := by rw [str_test0]; exact decide_eq_true hr0
  have HCK := fun W b hg hr hb hB ht' => check_in w.heap.size (w.heap.size + 1 + 1) b [(n, d)] W hg hr (by simp) (ok_one h1) hb hB ht'
  have HM := fun q W hg ht' => wmul_in q n T W hg h1.1 (by simpa using hTb) hn ht'
  have HD := fun W ht' => div_in (n * T) d W hn h1.2.1 ht' (by omega)
  have HR := fun B q W hg hB ht' => reduced_in B q (n * T / d) T W hg hsm.1 (by simpa using hTb) (by omega) hB ht'
  have HRT := fun W => rats_one W 25 n d
  unfold RedPost RV at HR
  unfold DivPost at HD
  unfold RatPost RV
  generalize str (rnum (n * T / d) T) = q1 at *
  generalize str (rden (n * T / d) T) = q2 at *
  generalize str (n * T / d) = m1 at *
  generalize str (n * T % d) = m2 at *
  generalize str (n * T) = m3 at *
  generalize str (T : Int) = tt at *
  generalize str n = s1 at *
  generalize str d = t1 at *
  have z0 := RO.start ht s1 t1 (.string ⟨#[]⟩) (.string ⟨#[]⟩) 25 89
  obtain ⟨W0, hW0⟩ : ∃ W0, W0 = (((w.alloc (.cells #[.string s1, .string t1] 25)).alloc (.cells #[.string ⟨#[]⟩, .string ⟨#[]⟩] 25)).alloc (.cells #[.bool false] 89)) := ⟨_, rfl⟩
  have hsz : W0.heap.size = w.heap.size + 1 + 1 + 1 := by rw [hW0, sizeNew, sizeNew, sizeNew]
  have rt := HRT W0
  have bn := belowNew W0 (.cells #[.string s1, .string t1] 25)
  rw [hsz] at rt
  rw [← hW0] at z0
  have z1 := z0.below bn
  have x1 := HCK _ _ z1.g rt (by omega) (by omega) z1.t
  rw [hW0] at x1 z1
  have HX := Lib.hid x1
  have c1 := z1.a.c00
  have c2 := z1.a.c01
  have c3 := z1.g.c
  have HST : Hid (({ data := #[49] } ++ { data := Array.replicate p 48 } : ByteArray) = tt) := Lib.hid (by rw [hST]; apply ByteArray.ext; simp)
  clear HCK rt bn hsz z0 HRT x1 hW0 hST
  have HM := Lib.hid HM
  have HD := Lib.hid HD
  have HR := Lib.hid HR
  have hlo : decide ((p : Int) < 0) = false := decide_eq_false (by omega)
  have hhi : decide ((30 : Int) < (p : Int)) = false := decide_eq_false (by omega)
  have hrep : ¬ (9223372036854775807 < 1 + p) := by omega
  clear hn h1 hsm hr0 hTb hT0 hg0 hdp
  go_enter Tryz.func144, Tryz.ntmps144
  go_wp2_with (first
    | (go_at_call 68; refine HX.out.mono ?_; rintro e w2 ⟨rfl, g2, b2⟩; have z2 := z1.but b2 g2; have c1 := z2.a.c00; have c2 := z2.a.c01; have c3 := z2.g.c)
    | (go_at_call 89; refine (zeros_any p (by omega) _).mono ?_; rintro e w3 ⟨rfl, hb3⟩; have z3 := z2.below hb3; have c1 := z3.a.c00; have c2 := z3.a.c01; have c3 := z3.g.c)
    | (go_at_call 69; rw [HST.out]; refine (HM.out _ _ z3.g z3.t.here).mono ?_; rintro e w4 ⟨rfl, g4, b4⟩; have z4 := z3.but b4 g4; have c1 := z4.a.c00; have c2 := z4.a.c01; have c3 := z4.g.c)
    | (go_at_call 51; refine (HD.out _ z4.t.here).mono ?_; rintro e w5 ⟨rfl, hb5⟩; have z5 := z4.below hb5; have c1 := z5.a.c00; have c2 := z5.a.c01; have c3 := z5.g.c; have c4 := z5.g.f; have z6 := z5.but (But.set w5 (w.heap.size + 1 + 1) 0 (.bool false)) z5.g.set; have c5 := z6.g.c)
    | (go_at_call 70; refine (HR.out w.heap.size (w.heap.size + 1 + 1) _ z6.g (by omega) z6.t).mono ?_; rintro e w7 ⟨rfl, g7, b7⟩; have z7 := z6.but b7 g7; have e0 := z7.r.c00; have e1 := z7.r.c01; have e2 := z7.r.f0))
  have r5 := z7.r.put (.string q1) (.string q2)
  refine bodyPost_ret_by (v := .tuple #[.agg #[.string q1, .string q2], .int .i64 0]) (by simp [results, Tryz.f144, go_sem, r5.c00, r5.c01]) rfl ⟨rfl, below_put2 z7.l _ _ (by omega)⟩
set_option maxRecDepth 100000 in
set_option maxHeartbeats 4000000 in
theorem round_up1 (n d : Int) (p : Nat) (w : World) (h1 : IsR n d) (hp : p ≤ 30) (hr0 : n * (10 ^ p : Nat) % d ≠ 0) (hq : (n * (10 ^ p : Nat) / d + 1).natAbs < big) (hn : (n * (10 ^ p : Nat)).natAbs < big) (ht : TabOf w) :
    Calls Tryz.prog 144 #[RV n d, .int .i64 p, .bool true] w (RatPost (rnum (gridN true n d (10 ^ p : Nat)) (10 ^ p : Nat)) (rden (gridN true n d (10 ^ p : Nat)) (10 ^ p : Nat)) w) := by
  have hT0 : 0 < 10 ^ p := Nat.pow_pos (by omega)
  have hTb : 10 ^ p < big := by rw [big_eq]; exact Nat.pow_lt_pow_right (by omega) (by omega)
  have hST := str_ten p
  generalize (10 ^ p : Nat) = T at *
  have hdp := h1.pos
  have hsm := div_small (n := n * T) (m := d) (by omega) hn h1.2.1
  have hg0 : gridN true n d T = n * T / d + 1 := by unfold gridN; rw [decide_eq_false hr0]; rfl
  rw [hg0]
  have h48 : ((str (n * T % d)).toList == [48]) = false := by rw [str_test0]; exact decide_eq_false hr0
  have HAD := fun q W hg ht' => do_in 35 q (str (n * T / d)) (str 1) (str (n * T / d + 1)) W hg (does_add hsm.1 (by rw [big_eq]; exact Nat.lt_of_lt_of_le (show 1 < 10 ^ 1 by decide) (Nat.pow_le_pow_right (by omega) (by omega))) hq ht') ent_add
  rw [str_one] at HAD
  have HCK := fun W b hg hr hb hB ht' => check_in w.heap.size (w.heap.size + 1 + 1) b [(n, d)] W hg hr (by simp) (ok_one h1) hb hB ht'
  have HM := fun q W hg ht' => wmul_in q n T W hg h1.1 (by simpa using hTb) hn ht'
  have HD := fun W ht' => div_in (n * T) d W hn h1.2.1 ht' (by omega)
  have HR := fun B q W hg hB ht' => reduced_in B q (n * T / d + 1) T W hg hq (by simpa using hTb) (by omega) hB ht'
  have HRT := fun W => rats_one W 25 n d
  unfold RedPost RV at HR
  unfold DivPost at HD
  unfold RatPost RV
  generalize str (rnum (n * T / d + 1) T) = q1 at *
  generalize str (rden (n * T / d + 1) T) = q2 at *
  generalize str (n * T / d + 1) = m0 at *
  generalize str (n * T / d) = m1 at *
  generalize str (n * T % d) = m2 at *
  generalize str (n * T) = m3 at *
  generalize str (T : Int) = tt at *
  generalize str n = s1 at *
  generalize str d = t1 at *
  have z0 := RO.start ht s1 t1 (.string ⟨#[]⟩) (.string ⟨#[]⟩) 25 89
  obtain ⟨W0, hW0⟩ : ∃ W0, W0 = (((w.alloc (.cells #[.string s1, .string t1] 25)).alloc (.cells #[.string ⟨#[]⟩, .string ⟨#[]⟩] 25)).alloc (.cells #[.bool false] 89)) := ⟨_, rfl⟩
  have hsz : W0.heap.size = w.heap.size + 1 + 1 + 1 := by rw [hW0, sizeNew, sizeNew, sizeNew]
  have rt := HRT W0
  have bn := belowNew W0 (.cells #[.string s1, .string t1] 25)
  rw [hsz] at rt
  rw [← hW0] at z0
  have z1 := z0.below bn
  have x1 := HCK _ _ z1.g rt (by omega) (by omega) z1.t
  rw [hW0] at x1 z1
  have HX := Lib.hid x1
  have c1 := z1.a.c00
  have c2 := z1.a.c01
  have c3 := z1.g.c
  have HST : Hid (({ data := #[49] } ++ { data := Array.replicate p 48 } : ByteArray) = tt) := Lib.hid (by rw [hST]; apply ByteArray.ext; simp)
  clear HCK rt bn hsz z0 HRT x1 hW0 hST
  have HM := Lib.hid HM
  have HAD := Lib.hid HAD
  have HD := Lib.hid HD
  have HR := Lib.hid HR
  have hlo : decide ((p : Int) < 0) = false := decide_eq_false (by omega)
  have hhi : decide ((30 : Int) < (p : Int)) = false := decide_eq_false (by omega)
  have hrep : ¬ (9223372036854775807 < 1 + p) := by omega
  clear hn h1 hsm hr0 hq hTb hT0 hg0 hdp
  go_enter Tryz.func144, Tryz.ntmps144
  go_wp2_with (first
    | (go_at_call 68; refine HX.out.mono ?_; rintro e w2 ⟨rfl, g2, b2⟩; have z2 := z1.but b2 g2; have c1 := z2.a.c00; have c2 := z2.a.c01; have c3 := z2.g.c)
    | (go_at_call 89; refine (zeros_any p (by omega) _).mono ?_; rintro e w3 ⟨rfl, hb3⟩; have z3 := z2.below hb3; have c1 := z3.a.c00; have c2 := z3.a.c01; have c3 := z3.g.c)
    | (go_at_call 69; rw [HST.out]; refine (HM.out _ _ z3.g z3.t.here).mono ?_; rintro e w4 ⟨rfl, g4, b4⟩; have z4 := z3.but b4 g4; have c1 := z4.a.c00; have c2 := z4.a.c01; have c3 := z4.g.c)
    | (go_at_call 51; refine (HD.out _ z4.t.here).mono ?_; rintro e w5 ⟨rfl, hb5⟩; have z5 := z4.below hb5; have c1 := z5.a.c00; have c2 := z5.a.c01; have c3 := z5.g.c; have c4 := z5.g.f; have z6 := z5.but (But.set w5 (w.heap.size + 1 + 1) 0 (.bool false)) z5.g.set; have c5 := z6.g.c)
    | (go_at_call 77; refine (HAD.out _ _ z6.g z6.t.here).mono ?_; rintro e w8 ⟨rfl, g8, b8⟩; have z8 := z6.but b8 g8)
    | (go_at_call 70; refine (HR.out w.heap.size (w.heap.size + 1 + 1) _ z8.g (by omega) z8.t).mono ?_; rintro e w7 ⟨rfl, g7, b7⟩; have z7 := z8.but b7 g7; have e0 := z7.r.c00; have e1 := z7.r.c01; have e2 := z7.r.f0))
  have r5 := z7.r.put (.string q1) (.string q2)
  refine bodyPost_ret_by (v := .tuple #[.agg #[.string q1, .string q2], .int .i64 0]) (by simp [results, Tryz.f144, go_sem, r5.c00, r5.c01]) rfl ⟨rfl, below_put2 z7.l _ _ (by omega)⟩

theorem round_up (n d : Int) (p : Nat) (w : World) (h1 : IsR n d) (hp : p ≤ 30) (hn : (n * (10 ^ p : Nat)).natAbs < big) (hq : (n * (10 ^ p : Nat) / d + 1).natAbs < big) (ht : TabOf w) :
    Calls Tryz.prog 144 #[RV n d, .int .i64 p, .bool true] w (RatPost (rnum (gridN true n d (10 ^ p : Nat)) (10 ^ p : Nat)) (rden (gridN true n d (10 ^ p : Nat)) (10 ^ p : Nat)) w) := by
  by_cases h : n * (10 ^ p : Nat) % d = 0
  · exact round_up0 n d p w h1 hp h hn ht
  · exact round_up1 n d p w h1 hp h hq hn ht

set_option maxRecDepth 100000 in
set_option maxHeartbeats 4000000 in
theorem down_in (n d : Int) (p : Nat) (w : World) (h1 : IsR n d) (hp : p ≤ 30) (hn : (n * (10 ^ p : Nat)).natAbs < big) (ht : TabOf w) :
    Calls Tryz.prog 103 #[RV n d, .int .i64 p] w (RatPost (rnum (gridN false n d (10 ^ p : Nat)) (10 ^ p : Nat)) (rden (gridN false n d (10 ^ p : Nat)) (10 ^ p : Nat)) w) := by
  have HS := fun W h => round_dn n d p W h1 hp hn h
  unfold RatPost RV at HS
  unfold RatPost RV
  generalize str (rnum (gridN false n d (10 ^ p : Nat)) (10 ^ p : Nat)) = q1 at *
  generalize str (rden (gridN false n d (10 ^ p : Nat)) (10 ^ p : Nat)) = q2 at *
  generalize str n = s1 at *
  generalize str d = t1 at *
  have b1 := belowNew w (.cells #[.string s1, .string t1] 25)
  have b2 := belowNew (w.alloc (.cells #[.string s1, .string t1] 25)) (.cells #[.string ⟨#[]⟩, .string ⟨#[]⟩] 25)
  have k1 := (RC.new w 25 (.string s1) (.string t1)).below b2
  have k2 := RC.new (w.alloc (.cells #[.string s1, .string t1] 25)) 25 (.string ⟨#[]⟩) (.string ⟨#[]⟩)
  rw [sizeNew] at k2
  have l := b1.trans (b2.mono b1.size)
  have tt := ht.below l
  have c1 := k1.c00
  have c2 := k1.c01
  have HS := Lib.hid HS
  clear hn h1
  go_enter Tryz.func103, Tryz.ntmps103
  go_wp2_with (first
    | (go_at_call 144; refine (HS.out _ tt).mono ?_; rintro e w2 ⟨rfl, hb2⟩; have k3 := k2.below hb2; have l2 := l.trans (hb2.mono l.size); have e0 := k3.c00; have e1 := k3.c01; have e2 := k3.f0))
  have r5 := k3.put (.string q1) (.string q2)
  refine bodyPost_ret_by (v := .tuple #[.agg #[.string q1, .string q2], .int .i64 0]) (by simp [results, Tryz.f103, go_sem, r5.c00, r5.c01]) rfl ⟨rfl, below_put2 l2 _ _ (by omega)⟩

set_option maxRecDepth 100000 in
set_option maxHeartbeats 4000000 in
theorem up_in (n d : Int) (p : Nat) (w : World) (h1 : IsR n d) (hp : p ≤ 30) (hn : (n * (10 ^ p : Nat)).natAbs < big) (hq : (n * (10 ^ p : Nat) / d + 1).natAbs < big) (ht : TabOf w) :
    Calls Tryz.prog 104 #[RV n d, .int .i64 p] w (RatPost (rnum (gridN true n d (10 ^ p : Nat)) (10 ^ p : Nat)) (rden (gridN true n d (10 ^ p : Nat)) (10 ^ p : Nat)) w) := by
  have HS := fun W h => round_up n d p W h1 hp hn hq h
  unfold RatPost RV at HS
  unfold RatPost RV
  generalize str (rnum (gridN true n d (10 ^ p : Nat)) (10 ^ p : Nat)) = q1 at *
  generalize str (rden (gridN true n d (10 ^ p : Nat)) (10 ^ p : Nat)) = q2 at *
  generalize str n = s1 at *
  generalize str d = t1 at *
  have b1 := belowNew w (.cells #[.string s1, .string t1] 25)
  have b2 := belowNew (w.alloc (.cells #[.string s1, .string t1] 25)) (.cells #[.string ⟨#[]⟩, .string ⟨#[]⟩] 25)
  have k1 := (RC.new w 25 (.string s1) (.string t1)).below b2
  have k2 := RC.new (w.alloc (.cells #[.string s1, .string t1] 25)) 25 (.string ⟨#[]⟩) (.string ⟨#[]⟩)
  rw [sizeNew] at k2
  have l := b1.trans (b2.mono b1.size)
  have tt := ht.below l
  have c1 := k1.c00
  have c2 := k1.c01
  have HS := Lib.hid HS
  clear hn h1
  go_enter Tryz.func104, Tryz.ntmps104
  go_wp2_with (first
    | (go_at_call 144; refine (HS.out _ tt).mono ?_; rintro e w2 ⟨rfl, hb2⟩; have k3 := k2.below hb2; have l2 := l.trans (hb2.mono l.size); have e0 := k3.c00; have e1 := k3.c01; have e2 := k3.f0))
  have r5 := k3.put (.string q1) (.string q2)
  refine bodyPost_ret_by (v := .tuple #[.agg #[.string q1, .string q2], .int .i64 0]) (by simp [results, Tryz.f104, go_sem, r5.c00, r5.c01]) rfl ⟨rfl, below_put2 l2 _ _ (by omega)⟩
end Go.Proofs.YtppbhnhmaocdnaaGreatDoor
