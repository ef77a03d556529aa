/- the product of two numbers of package integer. -/
import Derived.Test.YtppbhnhmaocdnaaGreatDoorB12
import Derived.Test.YtppbhnhmaocdnaaGreatDoorB02
import Derived.Stop.RegionWithIn
set_option linter.unusedVariables false
set_option linter.unusedSimpArgs false
namespace Go.Proofs.YtppbhnhmaocdnaaGreatDoor
open Go.RowKit Go.Shelf

attribute [local go_sem] Oper.semAt_some

def valB (ys : List Nat) : List Nat → Nat := List.foldl (fun s j => 10000 * s + itm ys j) 0
theorem valB_snoc (ys : List Nat) (l : List Nat) (j : Nat) : valB ys (l ++ [j]) = 10000 * valB ys l + itm ys j := by simp [valB]

theorem valB_lt (ys : List Nat) (h : ∀ j, itm ys j < 10000) (l : List Nat) : valB ys l < 10000 ^ l.length := by
  have key : ∀ (r : List Nat), valB ys r.reverse < 10000 ^ r.length := by
    intro r
    induction r with
    | nil => simp [valB]
    | cons j r ih =>
      rw [List.reverse_cons, valB_snoc, List.length_cons, Nat.pow_succ]
      have := h j
      omega
  have := key l.reverse
  simpa using this

theorem valB_downs (ys : List Nat) (k : Nat) (hk : k ≤ ys.length) : valB ys (downs ys.length k) = ofD (ys.drop (ys.length - k)) := by
  induction k with
  | zero => simp [valB, downs, upto, ofD]
  | succ k ih =>
    rw [downs, upto_succ, valB_snoc]
    have ih' := ih (by omega)
    rw [downs] at ih'
    rw [ih']
    have e1 : ys.length - k = ys.length - 1 - k + 1 := by omega
    have e2 : ys.length - (k + 1) = ys.length - 1 - k := by omega
    rw [e1, e2, List.drop_eq_getElem_cons (i := ys.length - 1 - k) (by omega), ofD]
    have : itm ys (ys.length - 1 - k) = ys[ys.length - 1 - k]'(by omega) := by
      unfold itm; rw [List.getElem?_eq_getElem (by omega)]; rfl
    omega

theorem valB_all (b : Nat) : valB (digs b) (downs (digs b).length (digs b).length) = b := by
  rw [valB_downs _ _ (Nat.le_refl _), Nat.sub_self, List.drop_zero, ofD_digs]

theorem itm_lt (b j : Nat) : itm (digs b) j < 10000 := digs_at b j

theorem digs_mul_len {a m k l : Nat} (h1 : (digs a).length ≤ l) (h2 : m < 10000 ^ k) : (digs (a * m)).length ≤ l + k := by
  rw [digs_length_le_iff] at h1 ⊢
  rw [Nat.pow_add]
  exact Nat.mul_lt_mul'' h1 h2

structure TimesI (a b : Nat) (w : World) (v : Value) (pre : List Nat) (W : World) : Prop where
  out : ∃ ov, W.cell? ⟨w.heap.size + 1, 0, none⟩ = some ov ∧ Reads W ov (digs (a * valB (digs b) pre)) ∧ From w.heap.size ov
  frozen : W.frozen? ⟨w.heap.size + 1, 0, none⟩ = false
  l : W.cell? ⟨w.heap.size, 0, none⟩ = some v

set_option maxRecDepth 100000 in
set_option maxHeartbeats 2000000 in
theorem times_wide (v u : Value) (a b : Nat) (w : World) (h1 : Reads w v (digs a)) (h2 : Reads w u (digs b)) (l1 : (digs a).length ≤ 4000) (l2 : (digs b).length ≤ 4000) :
    CallsIn Fence.wide 5 Tryz.prog 143 #[v, u] w (NumPost w.heap.size w (a * b)) := by
  obtain ⟨a1, k1, rfl, _⟩ := h1.shape
  obtain ⟨a2, k2, rfl, _⟩ := h2.shape
  have hfn : ∀ k, Fence.wide.fn k := fun _ => trivial
  refine callsIn_of_wp_marks Tryz.func143 rfl trivial ?_ rfl
  simp only [Tryz.ntmps143, List.size_toArray, List.length_cons, List.length_nil, Nat.reduceAdd, Nat.reduceSub, Array.replicate_succ, Array.replicate_zero, List.push_toArray, List.append_toArray, List.nil_append, List.cons_append]
  gi_wp2_with (gi_at_call 123; refine (back_in _ _ _ _ _).mono ?_; rintro e w' ⟨rfl, rfl⟩)
  have bL := Boxed.new w 95 (.slice a1 (digs a).length k1)
  have bO := Boxed.new (w.alloc (.cells #[.slice a1 (digs a).length k1] 95)) 95 (.slice none 0 0)
  have bN := Boxed.new ((w.alloc (.cells #[.slice a1 (digs a).length k1] 95)).alloc (.cells #[.slice none 0 0] 95)) 95 (.slice a2 (digs b).length k2)
  rw [World.size_alloc] at bO bN
  rw [World.size_alloc] at bN
  have hB0 : Below w.heap.size w (((w.alloc (.cells #[.slice a1 (digs a).length k1] 95)).alloc (.cells #[.slice none 0 0] 95)).alloc (.cells #[.slice a2 (digs b).length k2] 95)) := ((belowNew w _).alloc (by simp) _).alloc (by simp; omega) _
  refine wpIn_rangeFunc_ownG rfl (by omega) (gf := 157) (lb := #[.pointer (some ⟨w.heap.size + 1 + 1, 0, none⟩)]) rfl trivial (enters_of Tryz.func157 (by kernel_rfl) rfl)
    (back_stops 4 (by omega) (w.heap.size + 1 + 1) w.heap.size _ (digs b) (by omega) _ (by simp) bN.cell w rfl hB0 h2) KeepB.trans (KeepB.b (by simp; omega) (by simp)) (Below.refl _ _) (fun _ => rfl)
    (fun pre W => TimesI a b w (.slice a1 (digs a).length k1) (fvals pre) W ∧ Below w.heap.size w W ∧ w.heap.size + 1 + 1 < W.heap.size)
    (fun c pre W => False)
    (OwnFrom.and (Own.from (fun s A B row hs hg hr => ⟨by obtain ⟨ov, e1, e2, e3⟩ := hs.out; exact ⟨ov, cell_kept e1 hg hr, e2.kept hg hr, e3⟩, by obtain ⟨ov, e1, e2, e3⟩ := hs.out; exact (frozen_kept e1 hg hr).trans hs.frozen, cell_kept hs.l hg hr⟩) _)
      (OwnFrom.and (ownFrom_below (Nat.le_refl _) (by simp; omega)) (Own.from (fun s A B row hs hg hr => Nat.lt_of_lt_of_le hs hg.size) _)))
    (fun _ _ _ _ _ hs _ _ => hs)
    ⟨⟨⟨_, (bO.alloc _).cell, .inl ⟨rfl, by simp [valB, digs_zero, fvals]⟩, From.nil _ _ _⟩, (bO.alloc _).frozen, ((bL.alloc _).alloc _).cell⟩, hB0, by simp⟩
    (fun x => { tmps := #[.slice a1 (digs a).length k1, .slice a2 (digs b).length k2, .pointer (some ⟨w.heap.size, 0, none⟩), undef, .slice none 0 0, .pointer (some ⟨w.heap.size + 1, 0, none⟩), undef, .int .i64 ((itm (digs b) x.val : Nat) : Int), .slice a2 (digs b).length k2,
        .func (.func 157) #[] #[.pointer (some ⟨w.heap.size + 1 + 1, 0, none⟩)],
        .int .i64 ((x.val : Nat) : Int), .int .i64 ((itm (digs b) x.val : Nat) : Int), undef, undef, undef, undef, undef, undef, undef, undef, undef, undef, undef, undef], defers := [] }) ?assign ?body ?done ?stop
  case assign =>
    intro l x W K hK
    unfold yields
    gi_wp2
    exact hK
  case body =>
    rintro l pre x W ⟨⟨⟨ov, hco, hro, _⟩, hfo, hcl⟩, hB, hsz⟩ hlen
    have hl2 := valB_lt (digs b) (itm_lt b) (fvals pre)
    rw [fvals_length] at hl2
    have hdl := digs_mul_len (k := pre.length) l1 hl2
    have hvx : valB (digs b) (fvals (pre ++ [x])) = 10000 * valB (digs b) (fvals pre) + itm (digs b) x.val := by rw [fvals_snoc, valB_snoc]
    have hcx := itm_lt b x.val
    have hra : Reads W (.slice a1 (digs a).length k1) (digs a) := h1.below hB
    generalize hcc : itm (digs b) x.val = c at *
    generalize hmm : valB (digs b) (fvals pre) = m at *
    have HVX := Lib.hid hvx
    have HCC := Lib.hid hcc
    have HMM := Lib.hid hmm
    have HL2 := Lib.hid hl2
    have H1 := Lib.hid h1
    have H2 := Lib.hid h2
    clear hvx hcc hmm hl2 h1 h2 bL bO bN hB0
    have hdl4 : (digs (a * c)).length ≤ 5000 := by
      have := digs_mul_len (a := a) (m := c) (k := 1) l1 (by omega)
      omega
    have hdl3 : (digs (10000 * (a * m))).length ≤ 9000 := by
      have := digs_mul_len (a := a) (m := 10000 * m) (k := pre.length + 1) l1 (by rw [Nat.pow_succ]; have := HL2.out; omega)
      rw [Nat.mul_left_comm] at this
      omega
    by_cases hm0 : a * m = 0
    · obtain ⟨ao, ko, rfl, _⟩ := hro.shape
      have hz : digs (a * m) = [] := by rw [hm0, digs_zero]
      rw [hz] at hro hco
      have HM0 := Lib.hid hm0
      have HR2 : Hid (Reads W (.slice ao 0 ko) (digs 0)) := by rw [digs_zero]; exact hro
      have hco2 : W.cell? ⟨w.heap.size + 1, 0, none⟩ = some (.slice ao 0 ko) := hco
      have hfo2 : W.frozen? ⟨w.heap.size + 1, 0, none⟩ = false := hfo
      have hsz2 : w.heap.size + 1 < W.heap.size := by omega
      have HA2 : Hid (Reads W (.slice a1 (digs a).length k1) (digs a)) := hra
      have hK2 : But (w.heap.size + 1) W W := But.refl _ _
      have hdl0 : (digs 0).length ≤ 9000 := by rw [digs_zero]; simp
      have HD0 := Lib.hid hdl0
      clear hm0 hz hro hco hfo hra hdl3 hdl0
      gi_wp2
      gi_region_with (first
        | (gi_at_call 134; refine (CallsIn.inRound l (callsIn_wide.2 (by_in _ a c _ (by exact HA2.out) (by omega) hcx))).mono ?_; rintro e w3 ⟨v3, rfl, hr3, hf3, hb3⟩; have hco3 : w3.cell? ⟨w.heap.size + 1, 0, none⟩ = some (.slice ao 0 ko) := (hb3.cell (p := ⟨w.heap.size + 1, 0, none⟩) hsz2).trans hco2; have hfo3 : w3.frozen? ⟨w.heap.size + 1, 0, none⟩ = false := (hb3.frozen (p := ⟨w.heap.size + 1, 0, none⟩) hsz2).trans hfo2; have hsz3 : w.heap.size + 1 < w3.heap.size := Nat.lt_of_lt_of_le hsz2 hb3.size)
        | (gi_at_call 95; refine (CallsIn.inRound l (callsIn_wide.2 (plus_in _ _ _ _ _ (by exact Reads.below (w := World.drew W) HR2.out hb3) hr3 (by rw [digs_zero]; simp) (by omega)))).mono ?_; rintro e w4 ⟨v4, rfl, hr4, hf4, hb4⟩; rw [Nat.zero_add] at hr4; obtain ⟨a4, k4, rfl, _⟩ := hr4.shape; have hco4 : w4.cell? ⟨w.heap.size + 1, 0, none⟩ = some (.slice ao 0 ko) := (hb4.cell (p := ⟨w.heap.size + 1, 0, none⟩) hsz3).trans hco3; have hfo4 : w4.frozen? ⟨w.heap.size + 1, 0, none⟩ = false := (hb4.frozen (p := ⟨w.heap.size + 1, 0, none⟩) hsz3).trans hfo3))
      all_goals
        gi_wp2
        have hK4 := (hK2.drew.trans (But.of hb3)).trans (But.of hb4)
        have hK5 := hK4.trans (But.set w4 (w.heap.size + 1) 0 (.slice a4 (digs (a * c)).length k4))
        refine ⟨hK5.keeps (by simp), ⟨hK5.below (Nat.le_succ _) hB.size, hK5.block _ hsz (by omega)⟩, ⟨⟨_, setSame hco4 _, ?_, hf4.mono (by omega)⟩, by rw [World.frozen?_setCell]; exact hfo4, setOther (hK4.cell (by omega) hcl) (by omega) _⟩, hB.trans (hK5.below (Nat.le_succ _) hB.size), Nat.lt_of_lt_of_le hsz hK5.size⟩
        rw [HVX.out, show a * (10000 * m + c) = a * c from by rw [Nat.mul_add, Nat.mul_left_comm, HM0.out, Nat.mul_zero, Nat.zero_add]]
        exact hr4.setCell hco4 (by simp) _
    · have hne : (digs (a * m)).length ≠ 0 := by
        intro h; exact hm0 (digs_eq_nil.1 (List.length_eq_zero_iff.1 h))
      obtain ⟨ao, ko, rfl, _⟩ := hro.shape
      have hpos : 0 < (digs (a * m)).length := by omega
      have hsz' : w.heap.size + 1 < W.heap.size := by omega
      have HRO := Lib.hid hro
      have HRA := Lib.hid hra
      clear hro hne hra
      have HM0 := Lib.hid hm0
      clear hm0
      gi_wp2_with (gi_at_builtin; refine wpListIn_append_cons rfl _ _ 95 rfl Tryz.underT Tryz.infoI W 0 (.slice ao (digs (a * m)).length ko) (digs (a * m)) rfl rfl HRO.out (by omega) ?_)
      intro v1 w1 hr1 hf1 hb1
      clear hf1
      rw [← digs_shift _ HM0.out] at hr1
      obtain ⟨a3, k3, rfl, _⟩ := hr1.shape
      have hco1 : w1.cell? ⟨w.heap.size + 1, 0, none⟩ = some (.slice ao (digs (a * m)).length ko) := (hb1.cell (p := ⟨w.heap.size + 1, 0, none⟩) (by show w.heap.size + 1 < _; omega)).trans hco
      have hfo1 : w1.frozen? ⟨w.heap.size + 1, 0, none⟩ = false := (hb1.frozen (p := ⟨w.heap.size + 1, 0, none⟩) (by show w.heap.size + 1 < _; omega)).trans hfo
      have hcl1 : w1.cell? ⟨w.heap.size, 0, none⟩ = some (.slice a1 (digs a).length k1) := (hb1.cell (p := ⟨w.heap.size, 0, none⟩) (by show w.heap.size < _; omega)).trans hcl
      have HR1 := Lib.hid hr1
      clear hr1
      gi_wp2
      obtain ⟨W2, hW2⟩ : ∃ W2, W2 = w1.setCell ⟨w.heap.size + 1, 0, none⟩ (.slice a3 (digs (10000 * (a * m))).length k3) := ⟨_, rfl⟩
      rw [← hW2]
      have hco2 : W2.cell? ⟨w.heap.size + 1, 0, none⟩ = some (.slice a3 (digs (10000 * (a * m))).length k3) := by rw [hW2]; exact setSame hco1 _
      have hfo2 : W2.frozen? ⟨w.heap.size + 1, 0, none⟩ = false := by rw [hW2, World.frozen?_setCell]; exact hfo1
      have hcl2 : W2.cell? ⟨w.heap.size, 0, none⟩ = some (.slice a1 (digs a).length k1) := by rw [hW2]; exact setOther hcl1 (by omega) _
      have hsz2 : w.heap.size + 1 < W2.heap.size := by rw [hW2, sizeSet]; have := hb1.size; omega
      have HR2 : Hid (Reads W2 (.slice a3 (digs (10000 * (a * m))).length k3) (digs (10000 * (a * m)))) := by rw [hW2]; exact HR1.out.setCell hco1 (by simp) _
      have HA2 : Hid (Reads W2 (.slice a1 (digs a).length k1) (digs a)) := by rw [hW2]; exact (HRA.out.below hb1).setCell hco1 (by simp) _
      have hB2 : Below w.heap.size w W2 := by rw [hW2]; exact (hB.trans (hb1.mono hB.size)).setCell (p := ⟨w.heap.size + 1, 0, none⟩) (Nat.le_succ _) _
      have hK2 : But (w.heap.size + 1) W W2 := by rw [hW2]; exact (But.of hb1).trans (But.set _ _ _ _)
      clear hco hfo hco1 hfo1 hcl1 hb1 HR1 HRA HRO hpos hW2 hsz'
      gi_region_with (first
        | (gi_at_call 134; refine (CallsIn.inRound l (callsIn_wide.2 (by_in _ a c _ (by exact HA2.out) (by omega) hcx))).mono ?_; rintro e w3 ⟨v3, rfl, hr3, hf3, hb3⟩; have hco3 : w3.cell? ⟨w.heap.size + 1, 0, none⟩ = some (.slice a3 (digs (10000 * (a * m))).length k3) := (hb3.cell (p := ⟨w.heap.size + 1, 0, none⟩) hsz2).trans hco2; have hfo3 : w3.frozen? ⟨w.heap.size + 1, 0, none⟩ = false := (hb3.frozen (p := ⟨w.heap.size + 1, 0, none⟩) hsz2).trans hfo2; have hsz3 : w.heap.size + 1 < w3.heap.size := Nat.lt_of_lt_of_le hsz2 hb3.size)
        | (gi_at_call 95; refine (CallsIn.inRound l (callsIn_wide.2 (plus_in _ _ _ _ _ (by exact Reads.below (w := World.drew W2) HR2.out hb3) hr3 (by omega) (by omega)))).mono ?_; rintro e w4 ⟨v4, rfl, hr4, hf4, hb4⟩; obtain ⟨a4, k4, rfl, _⟩ := hr4.shape; have hco4 : w4.cell? ⟨w.heap.size + 1, 0, none⟩ = some (.slice a3 (digs (10000 * (a * m))).length k3) := (hb4.cell (p := ⟨w.heap.size + 1, 0, none⟩) hsz3).trans hco3; have hfo4 : w4.frozen? ⟨w.heap.size + 1, 0, none⟩ = false := (hb4.frozen (p := ⟨w.heap.size + 1, 0, none⟩) hsz3).trans hfo3))
      all_goals
        gi_wp2
        have hK4 := (hK2.drew.trans (But.of hb3)).trans (But.of hb4)
        have hK5 := hK4.trans (But.set w4 (w.heap.size + 1) 0 (.slice a4 (digs (10000 * (a * m) + a * c)).length k4))
        refine ⟨hK5.keeps (by simp), ⟨hK5.below (Nat.le_succ _) hB.size, hK5.block _ hsz (by omega)⟩, ⟨⟨_, setSame hco4 _, ?_, hf4.mono (by omega)⟩, by rw [World.frozen?_setCell]; exact hfo4, setOther (hK4.cell (by omega) hcl) (by omega) _⟩, hB.trans (hK5.below (Nat.le_succ _) hB.size), Nat.lt_of_lt_of_le hsz hK5.size⟩
        rw [HVX.out, show a * (10000 * m + c) = 10000 * (a * m) + a * c from by rw [Nat.mul_add, Nat.mul_left_comm]]
        exact hr4.setCell hco4 (by simp) _
  case done =>
    rintro D ys W hD hys ⟨⟨⟨ov, hco, hro, hfro⟩, hfo, hcl⟩, hB, hsz⟩ hK
    rw [hys, valB_all] at hro
    obtain ⟨ao, ko, rfl, _⟩ := hro.shape
    have HRO := Lib.hid hro
    have HFR := Lib.hid hfro
    clear hro hys h1 h2 hfro
    gi_wp2
    refine ⟨by simp, .inl ⟨_, _, rfl, run_takeDeferred hK, ?_⟩⟩
    refine ⟨_, results_tmp rfl _ _ _, .slice ao (digs (a * b)).length ko, rfl, HRO.out.kept (grownBy_putObj' _ D (.deferred none)) (fun r e => by cases e; exact ⟨_, hK, rfl⟩), HFR.out, hB.trans (belowK_b (w := w) (Nat.le_refl _) W D _ _ (by simp at hD; omega) hK rfl rfl)⟩
  case stop =>
    rintro D c pre W hD _ h _
    exact h.elim
theorem times_in (v u : Value) (a b : Nat) (w : World) (h1 : Reads w v (digs a)) (h2 : Reads w u (digs b)) (l1 : (digs a).length ≤ 4000) (l2 : (digs b).length ≤ 4000) :
    Calls Tryz.prog 143 #[v, u] w (NumPost w.heap.size w (a * b)) :=
  callsIn_wide.1 (times_wide v u a b w h1 h2 l1 l2)

end Go.Proofs.YtppbhnhmaocdnaaGreatDoor
