/- the division of two numbers of package integer. -/
import Derived.Test.YtppbhnhmaocdnaaGreatDoorB14
import Derived.Laws.EntriesVeiled
import Derived.Sort.CutIn
import Derived.Deep.RegionHeld3
import Derived.Test.YtppbhnhmaocdnaaGreatDoorB03
set_option linter.unusedVariables false
set_option linter.unusedSimpArgs false
namespace Go.Proofs.YtppbhnhmaocdnaaGreatDoor
theorem qb15a {α : Type _} (l : List α) (i : Nat) (a : α) : l.toArray.setIfInBounds i a = (l.set i a).toArray := List.setIfInBounds_toArray ..
theorem qb15z {α : Type _} {x : α} {xs : List α} {a : α} : (x :: xs).set 0 a = a :: xs := rfl
theorem qb15s {α : Type _} {x : α} {xs : List α} {i : Nat} {a : α} : (x :: xs).set (i + 1) a = x :: xs.set i a := rfl
open Go.RowKit Go.Shelf

set_option linter.unusedSimpArgs false

attribute [local go_sem] Oper.semAt_some

theorem wpListIn_make_full {F : Fence} {n : Nat} {P : Program} (w : World) {ops : Array Oper} {rest : List Oper} {o : Oper} {a : Act} {Q : Exit → Act → World → Prop}
    (hg : o.guard = none) (l c : Operand) (t : TypeId) (hop : o.op = Op.makeSlice t l c)
    (base : Nat) (e : TypeId) (i : TypeInfo) (z : Value) (size : Nat) (h1 : P.underlying t = some (.slice e)) (h2 : P.info? e = some i) (h3 : i.zero = some z) (h4 : i.size = size)
    (kl kc : IntKind) (L C : Int) (m : Nat) (hl : a.eval l = .int kl L) (hc : a.eval c = .int kc C) (hL : L = (m : Int)) (hC : C = (m : Int)) (b2 : i.bytes * m ≤ 281474976710656) (b3 : m ≤ maxLen) (b4 : base ≤ w.heap.size)
    (hK : ∀ w', w'.ownsRow base e size (.slice (some ⟨w.heap.size, 0, none⟩) m m) m (madeCells z.cells (m * size)).toList → w.grownBy w' none → wpListIn F n P ops Q rest (a.put o.dst (.slice (some ⟨w.heap.size, 0, none⟩) m m)) w') :
    wpListIn F n P ops Q (o :: rest) a w := by
  refine wpListIn_plain hg fun K hK' => ?_
  obtain ⟨w', hrun, r1, r2⟩ := run_make_full (P := P) w base t e i z size h1 h2 h3 h4 kl kc m b2 b3 b4
  subst hL
  subst hC
  unfold Oper.wpIn
  refine ⟨?_, ?_⟩
  · simp [Oper.about, hop]
  · rw [Oper.semAt_plain F _ _ (by rw [hop]; intro c hc'; cases hc')]
    simp [execOp, hop, hl, hc, hrun, Result.andThen]
    exact hK' _ _ (hK w' r1 r2)

/-! ### the plain side -/

theorem found_div {r b k : Nat} (hb : 0 < b) (hr : r < b * 10000) (h : Found 9999 (fun i => decide (r < b * (i + 1))) k) : k = r / b := by
  have h1 : b * k ≤ r := by
    cases k with
    | zero => simp
    | succ k =>
      have := h.low k (Nat.lt_succ_self _)
      simpa using this
  have h2 : r < b * (k + 1) := by
    have hle := h.le
    rcases Nat.lt_or_ge k 9999 with h3 | h3
    · have := h.high k (Nat.le_refl _) h3
      simpa using this
    · obtain rfl : k = 9999 := by omega
      exact hr
  have h3 : k ≤ r / b := (Nat.le_div_iff_mul_le hb).2 (by rw [Nat.mul_comm]; exact h1)
  have h4 : r / b < k + 1 := (Nat.div_lt_iff_lt_mul hb).2 (by rw [Nat.mul_comm]; exact h2)
  omega

theorem itm_set_same (qs : List Nat) (i d : Nat) (h : i < qs.length) : itm (qs.set i d) i = d := by
  unfold itm; rw [List.getElem?_set_self h]; rfl
theorem itm_set_other (qs : List Nat) (i j d : Nat) (h : i ≠ j) : itm (qs.set i d) j = itm qs j := by
  unfold itm; rw [List.getElem?_set_ne h]

theorem valB_set (qs : List Nat) (i d : Nat) (l : List Nat) (h : i ∉ l) : valB (qs.set i d) l = valB qs l := by
  have key : ∀ (r : List Nat), i ∉ r → valB (qs.set i d) r.reverse = valB qs r.reverse := by
    intro r
    induction r with
    | nil => intro _; rfl
    | cons j r ih =>
      intro hn
      rw [List.reverse_cons, valB_snoc, valB_snoc, ih (fun h => hn (List.mem_cons_of_mem _ h)), itm_set_other _ _ _ _ (fun e => hn (by rw [e]; exact List.mem_cons_self))]
  have := key l.reverse (by simpa using h)
  simpa using this

theorem div_round {V b n : Nat} (hb : 0 < b) {qv : Nat} (h : qv * b + V % b = V) : (10000 * qv + (10000 * (V % b) + n) / b) * b + (10000 * V + n) % b = 10000 * V + n := by
  have e1 : (10000 * V + n) % b = (10000 * (V % b) + n) % b := by
    rw [Nat.add_mod, Nat.mul_mod, Nat.add_mod (10000 * (V % b)), Nat.mul_mod 10000 (V % b), Nat.mod_mod]
  rw [e1]
  have h2 := Nat.div_add_mod (10000 * (V % b) + n) b
  generalize (10000 * (V % b) + n) / b = d at *
  generalize (10000 * (V % b) + n) % b = s at *
  generalize V % b = m at *
  rw [Nat.add_mul]
  have h3 : 10000 * qv * b = 10000 * (qv * b) := by rw [Nat.mul_assoc]
  rw [Nat.mul_comm b d] at h2
  omega

theorem mod_round {V b n : Nat} : (10000 * V + n) % b = (10000 * (V % b) + n) % b := by
  rw [Nat.add_mod, Nat.mul_mod, Nat.add_mod (10000 * (V % b)), Nat.mul_mod 10000 (V % b), Nat.mod_mod]

theorem trim_cons (n r : Nat) (hn : n < 10000) : trimL (n :: digs r) = digs (10000 * r + n) := by
  rw [trimL_eq _ (fun d hd => by rcases List.mem_cons.1 hd with rfl | hd; exact hn; exact digs_small r d hd), ofD, ofD_digs, Nat.add_comm]

theorem digs_cons_len (r c : Nat) (h : c < 10000) : (digs (10000 * r + c)).length ≤ (digs r).length + 1 := by
  by_cases h0 : 10000 * r + c = 0
  · rw [h0, digs_zero]; simp
  · rw [digs_pos h0]
    have : (10000 * r + c) / 10000 = r := by omega
    rw [this]; simp

theorem downs_nodup (n : Nat) : (downs n n).Nodup := by
  have : downs n n = (List.range n).map (fun j => n - 1 - j) := rfl
  rw [this, List.nodup_iff_pairwise_ne, List.pairwise_map]
  refine List.Pairwise.imp_of_mem ?_ (List.nodup_iff_pairwise_ne.1 List.nodup_range)
  intro x y hx hy hne e
  rw [List.mem_range] at hx hy
  omega

def ints (qs : List Nat) : List Value := qs.map fun d : Nat => Value.int .i64 (d : Int)

def QRow (W : World) (bq : Nat) (qs : List Nat) : Prop := W.heap[bq]? = some (.cells (ints qs).toArray 3 (0, 0))

theorem QRow.cell {W : World} {bq : Nat} {qs : List Nat} (h : QRow W bq qs) {i : Nat} (hi : i < qs.length) : W.cell? ⟨bq, i, none⟩ = some (.int .i64 ((itm qs i : Nat) : Int)) := by
  unfold QRow at h
  simp only [World.cell?, h]
  have : (ints qs)[i]? = some (.int .i64 ((itm qs i : Nat) : Int)) := by
    unfold ints itm
    rw [List.getElem?_map, List.getElem?_eq_getElem hi]; rfl
  simpa using this
theorem QRow.free {W : World} {bq : Nat} {qs : List Nat} (h : QRow W bq qs) (i : Nat) : W.frozen? ⟨bq, i, none⟩ = false := by
  unfold QRow at h
  simp [World.frozen?, h]
theorem QRow.set {W : World} {bq : Nat} {qs : List Nat} (h : QRow W bq qs) (i d : Nat) : QRow (W.setCell ⟨bq, i, none⟩ (.int .i64 (d : Int))) bq (qs.set i d) := by
  unfold QRow at *
  show (W.heap.modify bq _)[bq]? = _
  rw [Array.getElem?_modify, if_pos rfl, h]
  simp only [Option.map_some, Option.isSome_none, Bool.false_eq_true, if_false]
  congr 2
  apply Array.ext'
  simp [ints, List.map_set]
theorem QRow.lt {W : World} {bq : Nat} {qs : List Nat} (h : QRow W bq qs) : bq < W.heap.size := (Array.getElem?_eq_some_iff.1 h).1
theorem QRow.reads {W : World} {bq : Nat} {qs : List Nat} (h : QRow W bq qs) : Reads W (.slice (some ⟨bq, 0, none⟩) qs.length qs.length) qs :=
  .inr ⟨bq, 0, qs.length, rfl, h.lt, Nat.le_refl _, fun j hj => by rw [Nat.zero_add]; exact h.cell hj⟩
theorem QRow.below {W W' : World} {bq : Nat} {qs : List Nat} (h : QRow W bq qs) (hb : Below W.heap.size W W') : QRow W' bq qs := (hb.block bq h.lt).trans h
theorem QRow.but {W W' : World} {bq p : Nat} {qs : List Nat} (h : QRow W bq qs) (hb : But p W W') (hp : bq ≠ p) : QRow W' bq qs := (hb.block bq h.lt hp).trans h
theorem QRow.of_owns {W : World} {base bq n : Nat} (h : W.ownsRow base 3 1 (.slice (some ⟨bq, 0, none⟩) n n) n (madeCells #[Value.int .i64 0] n).toList) : QRow W bq (List.replicate n 0) := by
  obtain ⟨hl, h⟩ := h
  rcases h with ⟨h, _⟩ | ⟨g, cap, cur, e, _, h1, _, _, h2, h3⟩
  · cases h
  · simp only [Value.slice.injEq, Option.some.injEq, Addr.mk.injEq] at e
    obtain ⟨⟨rfl, _⟩, _, rfl⟩ := e
    unfold QRow
    rw [h1]
    congr 2
    apply Array.ext'
    have h4 : cur.toList.length = n * 1 := by simpa using h2
    rw [← h4, List.take_length] at h3
    rw [h3]
    have h5 : (madeCells #[Value.int .i64 0] n).toList.length = n := by rw [hl]; omega
    apply List.ext_getElem
    · simp [ints, h5]
    · intro i hi1 hi2
      simp [madeCells, ints, Nat.mod_one]

structure OverI (a b : Nat) (w : World) (mv : Value) (pre : List Nat) (W : World) : Prop where
  q : ∃ qs : List Nat, qs.length = (digs a).length ∧ Small qs ∧ QRow W (w.heap.size + 1 + 1 + 1) qs ∧ (pre.Nodup → valB qs pre * b + valB (digs a) pre % b = valB (digs a) pre)
  qb : W.cell? ⟨w.heap.size + 1, 0, none⟩ = some (.slice (some ⟨w.heap.size + 1 + 1 + 1, 0, none⟩) (digs a).length (digs a).length)
  qf : W.frozen? ⟨w.heap.size + 1, 0, none⟩ = false
  r : ∃ rv, W.cell? ⟨w.heap.size + 1 + 1, 0, none⟩ = some rv ∧ Reads W rv (digs (valB (digs a) pre % b)) ∧ From (w.heap.size + 1 + 1 + 1 + 1) rv
  rf : W.frozen? ⟨w.heap.size + 1 + 1, 0, none⟩ = false
  mb : W.cell? ⟨w.heap.size, 0, none⟩ = some mv

theorem OverI.own (a b : Nat) (w : World) (mv : Value) (pre : List Nat) {A B : World} {row : Option Nat} (h : OverI a b w mv pre A) (hg : A.grownBy B row) (hr : ∀ r, row = some r → ∃ o : Obj, A.heap[r]? = some o ∧ o.isCells = false) : OverI a b w mv pre B := by
  obtain ⟨⟨qs, q1, q2, q3, q4⟩, qb, qf, ⟨rv, r1, r2, r3⟩, rf, mb⟩ := h
  exact ⟨⟨qs, q1, q2, (grownBy_keeps_cells hg hr q3 rfl).trans q3, q4⟩, cell_kept qb hg hr, (frozen_kept qb hg hr).trans qf, ⟨rv, cell_kept r1 hg hr, r2.kept hg hr, r3⟩, (frozen_kept r1 hg hr).trans rf, cell_kept mb hg hr⟩

def OverPost (B : Nat) (w : World) (a b : Nat) (e : Ending) (w' : World) : Prop :=
  ∃ q r, e = .returned (.tuple #[q, r]) ∧ Reads w' q (digs (a / b)) ∧ Reads w' r (digs (a % b)) ∧ From B q ∧ From B r ∧ Below B w w'

structure OverM (w : World) (byb b r1 xv : Nat) (mv rv : Value) (n : Nat) (qs : List Nat) (W W5 : World) : Prop where
  by_ : W5.cell? ⟨byb, 0, none⟩ = some (.func (.func 134) #[mv] #[])
  rb : W5.cell? ⟨w.heap.size + 1 + 1, 0, none⟩ = some rv
  rf : W5.frozen? ⟨w.heap.size + 1 + 1, 0, none⟩ = false
  qb : W5.cell? ⟨w.heap.size + 1, 0, none⟩ = some (.slice (some ⟨w.heap.size + 1 + 1 + 1, 0, none⟩) n n)
  qf : W5.frozen? ⟨w.heap.size + 1, 0, none⟩ = false
  mb : W5.cell? ⟨w.heap.size, 0, none⟩ = some mv
  c : W5.cell? ⟨w.heap.size + 1 + 1 + 1, xv, none⟩ = some (.int .i64 ((r1 / b : Nat) : Int))
  r : Reads W5 rv (digs r1)
  q : QRow W5 (w.heap.size + 1 + 1 + 1) (qs.set xv (r1 / b))
  win : Win w.heap.size (w.heap.size + 4) W W5

set_option maxRecDepth 100000 in
set_option maxHeartbeats 2000000 in
theorem over_wide (v u : Value) (a b : Nat) (w : World) (h1 : Reads w v (digs a)) (h2 : Reads w u (digs b)) (l1 : (digs a).length ≤ 4000) (l2 : (digs b).length ≤ 4000) (hb0 : 0 < b) :
    CallsIn Fence.wide 5 Tryz.prog 94 #[v, u] w (OverPost w.heap.size w a b) := by
  obtain ⟨a1, k1, rfl, _⟩ := h1.shape
  obtain ⟨a2, k2, rfl, _⟩ := h2.shape
  obtain ⟨i0, hi, hz0, hz1, hz2⟩ := info_parts Tryz.infoI
  have hfn : ∀ k, Fence.wide.fn k := fun _ => trivial
  refine callsIn_of_wp_marks Tryz.func94 rfl trivial ?_ rfl
  simp only [Tryz.ntmps94, List.size_toArray, List.length_cons, List.length_nil, Nat.reduceAdd, Nat.reduceSub, Array.replicate_succ, Array.replicate_zero, List.push_toArray, List.append_toArray, List.nil_append, List.cons_append]
  have bM := Boxed.new w 95 (.slice a2 (digs b).length k2)
  have bQ := Boxed.new (w.alloc (.cells #[.slice a2 (digs b).length k2] 95)) 95 (.slice none 0 0)
  have bR := Boxed.new ((w.alloc (.cells #[.slice a2 (digs b).length k2] 95)).alloc (.cells #[.slice none 0 0] 95)) 95 (.slice none 0 0)
  rw [World.size_alloc] at bQ bR
  rw [World.size_alloc] at bR
  have hB0 : Below w.heap.size w (((w.alloc (.cells #[.slice a2 (digs b).length k2] 95)).alloc (.cells #[.slice none 0 0] 95)).alloc (.cells #[.slice none 0 0] 95)) := ((belowNew w _).alloc (by simp) _).alloc (by simp; omega) _
  have bM' := (bM.alloc (.cells #[.slice none 0 0] 95)).alloc (.cells #[.slice none 0 0] 95)
  have bQ' := bQ.alloc (.cells #[.slice none 0 0] 95)
  gi_wp2_with (gi_at_make; refine wpListIn_make_full _ rfl _ _ 95 rfl (w.heap.size + 1 + 1 + 1) 3 i0 (.int .i64 0) 1 Tryz.underT hi hz0 hz1 _ _ _ _ (digs a).length rfl rfl rfl rfl (by rw [hz2]; omega) (by unfold maxLen; omega) (by simp) ?_)
  intro w1 hown1 hg1
  have hBg : Below (((w.alloc (.cells #[.slice a2 (digs b).length k2] 95)).alloc (.cells #[.slice none 0 0] 95)).alloc (.cells #[.slice none 0 0] 95)).heap.size (((w.alloc (.cells #[.slice a2 (digs b).length k2] 95)).alloc (.cells #[.slice none 0 0] 95)).alloc (.cells #[.slice none 0 0] 95)) w1 := (Below.refl _ _).grown hg1 (Nat.le_refl _) (by intro k hk; cases hk)
  have hq1 : QRow w1 (w.heap.size + 1 + 1 + 1) (List.replicate (digs a).length 0) := QRow.of_owns hown1
  have cM := Below.get hBg bM'.cell
  have cQ := Below.get hBg bQ'.cell
  have fQ := Below.unf hBg bQ'.cell bQ'.frozen
  have cR := Below.get hBg bR.cell
  have fR := Below.unf hBg bR.cell bR.frozen
  have hs1 : w.heap.size + 1 + 1 + 1 < w1.heap.size := hq1.lt
  have hB1 : Below w.heap.size w w1 := hB0.trans (hBg.mono (by simp; omega))
  have HQ1 := Lib.hid hq1
  have HB1 := Lib.hid hB1
  have HZ := Lib.hid (And.intro hz0 (And.intro hz1 hz2))
  clear hq1 hB1 hBg hg1 hown1 bM bQ bR bM' bQ' hB0 hz0 hz1 hz2 hi
  gi_wp2_with (gi_at_call 123; refine (back_in _ _ _ _ _).mono ?_; rintro e w' ⟨rfl, rfl⟩)
  obtain ⟨W0, hW0⟩ : ∃ W0, W0 = (w1.setCell ⟨w.heap.size + 1, 0, none⟩ (.slice (some ⟨w.heap.size + 1 + 1 + 1, 0, none⟩) (digs a).length (digs a).length)).alloc (.cells #[.slice a1 (digs a).length k1] 95) := ⟨_, rfl⟩
  rw [← hW0]
  have bN : W0.cell? ⟨w1.heap.size, 0, none⟩ = some (.slice a1 (digs a).length k1) := by rw [hW0]; exact cellAt _ _ _ 0 _ (sizeSet _ _ _).symm
  have sz0 : W0.heap.size = w1.heap.size + 1 := by rw [hW0, sizeNew, sizeSet]
  have hbut : But (w.heap.size + 1) w1 W0 := by rw [hW0]; exact (But.set _ _ _ _).trans (But.of (belowNew _ _))
  have cM0 : W0.cell? ⟨w.heap.size, 0, none⟩ = some (.slice a2 (digs b).length k2) := hbut.cell (by omega) cM
  have cQ0 : W0.cell? ⟨w.heap.size + 1, 0, none⟩ = some (.slice (some ⟨w.heap.size + 1 + 1 + 1, 0, none⟩) (digs a).length (digs a).length) := by rw [hW0]; exact cellOld (by rw [sizeSet]; show w.heap.size + 1 < _; omega) (setSame cQ _)
  have fQ0 : W0.frozen? ⟨w.heap.size + 1, 0, none⟩ = false := by
    rw [hW0]; exact Below.unf (belowNew _ _) (setSame cQ _) (by rw [World.frozen?_setCell]; exact fQ)
  have cR0 : W0.cell? ⟨w.heap.size + 1 + 1, 0, none⟩ = some (.slice none 0 0) := hbut.cell (by omega) cR
  have fR0 : W0.frozen? ⟨w.heap.size + 1 + 1, 0, none⟩ = false := by
    rw [World.frozen?_of_block (w := w1) (a := ⟨w.heap.size + 1 + 1, 0, none⟩) (hbut.block (w.heap.size + 1 + 1) (ltOf cR) (by omega))]; exact fR
  have hq0 : QRow W0 (w.heap.size + 1 + 1 + 1) (List.replicate (digs a).length 0) := HQ1.out.but hbut (by omega)
  have hB0 : Below w.heap.size w W0 := HB1.out.trans (hbut.below (Nat.le_succ _) HB1.out.size)
  refine wpIn_rangeFunc_ownG rfl (by omega) (gf := 157) (lb := #[.pointer (some ⟨w1.heap.size, 0, none⟩)]) rfl trivial (enters_of Tryz.func157 (by kernel_rfl) rfl)
    (back_stops 4 (by omega) w1.heap.size w.heap.size _ (digs a) (by omega) _ (by omega) bN w rfl hB0 h1) KeepB.trans (KeepB.b (by omega) (by omega)) (Below.refl _ _) (fun _ => rfl)
    (fun pre W => OverI a b w (.slice a2 (digs b).length k2) (fvals pre) W ∧ Below w.heap.size w W ∧ w1.heap.size < W.heap.size)
    (fun c pre W => False)
    (OwnFrom.and (Own.from (fun s A B row hs hg hr => OverI.own a b w (.slice a2 (digs b).length k2) (fvals s) hs hg hr) _)
      (OwnFrom.and (ownFrom_below (Nat.le_refl _) (by omega)) (Own.from (fun s A B row hs hg hr => Nat.lt_of_lt_of_le hs hg.size) _)))
    (fun _ _ _ _ _ hs _ _ => hs)
    ⟨⟨⟨_, by simp, (fun d hd => by rw [List.eq_of_mem_replicate hd]; omega), hq0, fun _ => by simp [valB, fvals]⟩, cQ0, fQ0, ⟨_, cR0, .inl ⟨rfl, by simp [valB, fvals, digs_zero]⟩, From.nil _ _ _⟩, fR0, cM0⟩, hB0, by omega⟩
    (fun x => { tmps := #[.slice a1 (digs a).length k1, .slice a2 (digs b).length k2, undef, .pointer (some ⟨w.heap.size, 0, none⟩), .pointer (some ⟨w.heap.size + 1, 0, none⟩), .pointer (some ⟨w.heap.size + 1 + 1, 0, none⟩),
        .int .i64 ((x.val : Nat) : Int), .int .i64 ((itm (digs a) x.val : Nat) : Int), undef, undef, .slice a1 (digs a).length k1, .int .i64 (digs a).length, .slice (some ⟨w.heap.size + 1 + 1 + 1, 0, none⟩) (digs a).length (digs a).length,
        .slice a1 (digs a).length k1, .func (.func 157) #[] #[.pointer (some ⟨w1.heap.size, 0, none⟩)],
        .int .i64 ((x.val : Nat) : Int), .int .i64 ((itm (digs a) x.val : Nat) : Int), undef, undef, undef, undef, undef, undef, undef, undef, undef, undef, undef, undef, undef, undef, undef, undef, undef, undef, undef, undef, undef, undef, undef, undef], defers := [] }) ?assign ?body ?done ?stop
  case assign =>
    intro l x W K hK
    unfold yields
    gi_wp2
    exact hK
  case body =>
    rintro l pre x W ⟨⟨⟨qs, hql, hqs, hq, hqv⟩, hqb, hqf, ⟨rv, hrb, hrr, hrf⟩, hrfz, hmb⟩, hB, hsz⟩ hlen
    clear hW0 bN hbut cM0 cQ0 fQ0 cR0 fR0 hq0 hB0 cM cQ fQ cR fR HQ1 HB1 HZ
    have hcx := itm_lt a x.val
    have hvx : valB (digs a) (fvals (pre ++ [x])) = 10000 * valB (digs a) (fvals pre) + itm (digs a) x.val := by rw [fvals_snoc, valB_snoc]
    have hvq : valB (qs.set x.val ((10000 * (valB (digs a) (fvals pre) % b) + itm (digs a) x.val) / b)) (fvals (pre ++ [x])) = 10000 * valB (qs.set x.val ((10000 * (valB (digs a) (fvals pre) % b) + itm (digs a) x.val) / b)) (fvals pre) + itm (qs.set x.val ((10000 * (valB (digs a) (fvals pre) % b) + itm (digs a) x.val) / b)) x.val := by rw [fvals_snoc, valB_snoc]
    have hmr : Reads W (.slice a2 (digs b).length k2) (digs b) := h2.below hB
    generalize hcc : itm (digs a) x.val = c at *
    generalize hmm : valB (digs a) (fvals pre) = V at *
    have hr0 : V % b < b := Nat.mod_lt _ hb0
    generalize hrr0 : V % b = r0 at *
    have hdr0 : (digs r0).length ≤ 4000 := Nat.le_trans (digs_length_le _ _ (Nat.lt_trans hr0 ((digs_length_le_iff b _).1 (Nat.le_refl _)))) l2
    have hdr1 : (digs (10000 * r0 + c)).length ≤ 4001 := Nat.le_trans (digs_cons_len r0 c hcx) (by omega)
    obtain ⟨ar, kr, rfl, _⟩ := hrr.shape
    have HRR := Lib.hid hrr
    have HMR := Lib.hid hmr
    have HQ := Lib.hid hq
    have HQV := Lib.hid hqv
    have HVX := Lib.hid hvx
    have HVQ := Lib.hid hvq
    have HCC := Lib.hid hcc
    have HMM := Lib.hid hmm
    have HR0 := Lib.hid hrr0
    have HQS := Lib.hid hqs
    have HQL := Lib.hid hql
    have H1 := Lib.hid h1
    have H2 := Lib.hid h2
    have hsz2 : w.heap.size + 1 + 1 < W.heap.size := by omega
    clear hrr hmr hq hqv hvx hvq hcc hmm hrr0 hqs hql h1 h2
    gi_wp2_with (gi_at_builtin; refine wpListIn_append_cons rfl _ _ 95 rfl Tryz.underT Tryz.infoI W c (.slice ar (digs r0).length kr) (digs r0) rfl rfl HRR.out (by omega) ?_)
    intro v1 w2 hr1 hf1 hb1
    have hqb2 := Below.get hb1 hqb
    have hqf2 := Below.unf hb1 hqb hqf
    have hrb2 := Below.get hb1 hrb
    have hrf2 := Below.unf hb1 hrb hrfz
    have hmb2 := Below.get hb1 hmb
    have HR1 := Lib.hid hr1
    have HF1 := Lib.hid hf1
    have HB1 := Lib.hid hb1
    clear hr1 hf1 hb1 
    gi_wp2_with (gi_at_call 133; refine (CallsIn.inRound l (callsIn_wide.2 (trimmed_in _ (c :: digs r0) _ HR1.out (by simp; omega)))).mono ?_; rintro e w3 ⟨v2, rfl, hr2, hf2, rfl⟩; rw [trim_cons c r0 hcx] at hr2; obtain ⟨ar2, kr2, rfl, _⟩ := hr2.shape; have HR2 := Lib.hid hr2; have HF2 := Lib.hid (hf2 _ HF1.out); clear hr2 hf2)
    obtain ⟨W3, hW3⟩ : ∃ W3, W3 = (w2.setCell ⟨w.heap.size + 1 + 1, 0, none⟩ (.slice ar2 (digs (10000 * r0 + c)).length kr2)).alloc (.cells #[.func (.func 134) #[.slice a2 (digs b).length k2] #[]] 148) := ⟨_, rfl⟩
    rw [← hW3]
    have sz3 : W3.heap.size = w2.heap.size + 1 := by rw [hW3, sizeNew, sizeSet]
    have hbut3 : But (w.heap.size + 1 + 1) W W3 := by rw [hW3]; exact ((But.of HB1.out).trans (But.set _ _ _ _)).trans (But.of (belowNew _ _))
    have hby3 : W3.cell? ⟨w2.heap.size, 0, none⟩ = some (.func (.func 134) #[.slice a2 (digs b).length k2] #[]) := by rw [hW3]; exact cellAt _ _ _ 0 _ (sizeSet _ _ _).symm
    have hrb3 : W3.cell? ⟨w.heap.size + 1 + 1, 0, none⟩ = some (.slice ar2 (digs (10000 * r0 + c)).length kr2) := by rw [hW3]; exact cellOld (by rw [sizeSet]; exact ltOf hrb2) (setSame hrb2 _)
    have hrf3 : W3.frozen? ⟨w.heap.size + 1 + 1, 0, none⟩ = false := by rw [hW3]; exact Below.unf (belowNew _ _) (setSame hrb2 _) (by rw [World.frozen?_setCell]; exact hrf2)
    have hqb3 : W3.cell? ⟨w.heap.size + 1, 0, none⟩ = some (.slice (some ⟨w.heap.size + 1 + 1 + 1, 0, none⟩) (digs a).length (digs a).length) := hbut3.cell (by omega) hqb
    have hmb3 : W3.cell? ⟨w.heap.size, 0, none⟩ = some (.slice a2 (digs b).length k2) := hbut3.cell (by omega) hmb
    have HR3 : Hid (Reads W3 (.slice ar2 (digs (10000 * r0 + c)).length kr2) (digs (10000 * r0 + c))) := by rw [hW3]; exact (HR2.out.setCell hrb2 (by simp) _).below (belowNew _ _)
    have hB3 : Below w.heap.size w W3 := hB.trans (hbut3.below (by omega) hB.size)
    have HM3 : Hid (Reads W3 (.slice a2 (digs b).length k2) (digs b)) := H2.out.below hB3
    have HQ3 : Hid (QRow W3 (w.heap.size + 1 + 1 + 1) qs) := HQ.out.but hbut3 (by omega)
    have hxq : x.val < qs.length := by rw [HQL.out]; exact x.isLt
    have hcell3 := HQ3.out.cell hxq
    have hfree3 := HQ3.out.free x.val
    have hxa : x.val < (digs a).length := x.isLt
    have HS := Lib.hid (search_any 9999 135 #[.pointer (some ⟨w2.heap.size, 0, none⟩), .pointer (some ⟨w.heap.size + 1 + 1, 0, none⟩)] (fun i => decide (10000 * r0 + c < b * (i + 1))) W3.drew (by omega)
      (enters_of Tryz.func135 (by kernel_rfl) rfl)
      (fun i W' hi hW' => (tooMuch_in (.slice a2 (digs b).length k2) (.slice ar2 (digs (10000 * r0 + c)).length kr2) b (10000 * r0 + c) _ _ i W' (Reads.below (w := W3.drew) HM3.out hW') (Reads.below (w := W3.drew) HR3.out hW') l2 (by omega) hi (Below.get (w := W3.drew) hW' hby3) (Below.get (w := W3.drew) hW' hrb3)).mono fun _ _ ⟨e1, e2⟩ => ⟨e1, e2.mono hW'.size⟩)
      (fun i j hij _ h => by
        have h5 : 10000 * r0 + c < b * (i + 1) := by simpa using h
        have h6 : b * (i + 1) ≤ b * (j + 1) := Nat.mul_le_mul_left _ (by omega)
        simpa using Nat.lt_of_lt_of_le h5 h6))
    have hwin3 : Win w.heap.size (w.heap.size + 4) W W3 := by rw [hW3]; exact ((Win.of HB1.out).trans (Win.set _ _ _ _ (by omega) (by omega))).trans (Win.of (belowNew _ _))
    have hqf3 : W3.frozen? ⟨w.heap.size + 1, 0, none⟩ = false := by rw [World.frozen?_of_block (w := W) (a := ⟨w.heap.size + 1, 0, none⟩) (hbut3.block (w.heap.size + 1) (ltOf hqb) (by omega))]; exact hqf
    have hval : ∀ k, Found 9999 (fun i => decide (10000 * r0 + c < b * (i + 1))) k → k = (10000 * r0 + c) / b := fun k hk => found_div hb0 (by have : b * 10000 = 10000 * b := Nat.mul_comm _ _; omega) hk
    have HVAL := Lib.hid hval
    clear hval hW3 hqb hqf hrb hrf hrfz hmb hqb2 hqf2 hrb2 hrf2 hmb2 hsz2 hbut3
    gi_cut [] from 25 (fun wx => OverM w w2.heap.size b (10000 * r0 + c) x.val (.slice a2 (digs b).length k2) (.slice ar2 (digs (10000 * r0 + c)).length kr2) (digs a).length qs W wx)
    case first =>
      gi_region_with (gi_at_call 136; refine (CallsIn.inRound l (callsIn_wide.2 HS.out)).mono ?_; rintro e W4 ⟨k, rfl, hk, hb4⟩; obtain rfl := HVAL.out k hk; clear hk; have hqb4 := Below.get (w := W3.drew) hb4 hqb3; have hcell4 := Below.get (w := W3.drew) hb4 hcell3; have hfree4 := Below.unf (w := W3.drew) hb4 hcell3 hfree3)
      all_goals
        gi_wp2_with fail
        gi_meet
        exact ⟨setOther (Below.get (w := W3.drew) hb4 hby3) (by have := HB1.out.size; omega) _, setOther (Below.get (w := W3.drew) hb4 hrb3) (by omega) _, by rw [World.frozen?_setCell]; exact Below.unf (w := W3.drew) hb4 hrb3 hrf3, setOther hqb4 (by omega) _, by rw [World.frozen?_setCell]; exact Below.unf (w := W3.drew) hb4 hqb3 hqf3, setOther (Below.get (w := W3.drew) hb4 hmb3) (by omega) _, setSame hcell4 _,
          (Reads.below (w := W3.drew) HR3.out hb4).setBlock (fun a n c e => by have := HF2.out a n c e; omega) _, (QRow.below (W := W3.drew) HQ3.out hb4).set _ _, (hwin3.drew.trans (Win.of hb4)).trans (Win.set _ _ _ _ (by omega) (by omega))⟩
    case rest =>
    obtain ⟨hby5, hrb5, hrf5, hqb5, hqf5, hmb5, hcell5, hr5, hq5, hwin5⟩ := hcut
    have HR5 := Lib.hid hr5
    have HQ5 := Lib.hid hq5
    have HWIN := Lib.hid hwin5
    have hB5 : Below w.heap.size w wc := hB.trans (hwin5.below (Nat.le_refl _) hB.size)
    have HM5 : Hid (Reads wc (.slice a2 (digs b).length k2) (digs b)) := H2.out.below hB5
    have hk9 : (10000 * r0 + c) / b ≤ 9999 := by
      have : (10000 * r0 + c) / b < 10000 := (Nat.div_lt_iff_lt_mul hb0).2 (by omega)
      omega
    have hle : b * ((10000 * r0 + c) / b) ≤ 10000 * r0 + c := Nat.mul_div_le _ _
    have hmod : 10000 * r0 + c - b * ((10000 * r0 + c) / b) = (10000 * r0 + c) % b := by
      have := Nat.div_add_mod (10000 * r0 + c) b
      omega
    have hround : (fvals (pre ++ [x])).Nodup → valB (qs.set x.val ((10000 * r0 + c) / b)) (fvals (pre ++ [x])) * b + (10000 * V + c) % b = 10000 * V + c := by
      intro hnd
      rw [fvals_snoc] at hnd
      have hnd2 := List.nodup_append.1 hnd
      have hnx : x.val ∉ fvals pre := fun hx => hnd2.2.2 x.val hx x.val (by simp) rfl
      rw [HVQ.out, valB_set _ _ _ _ hnx, itm_set_same _ _ _ hxq, ← HR0.out]
      exact div_round hb0 (by rw [HR0.out]; exact HQV.out hnd2.1)
    have hsm : Small (qs.set x.val ((10000 * r0 + c) / b)) := fun d hd => by
      rcases List.mem_or_eq_of_mem_set hd with h | h
      · exact HQS.out d h
      · omega
    have hm5 : (10000 * V + c) % b = (10000 * r0 + c) % b := by rw [mod_round, HR0.out]
    generalize hd : (10000 * r0 + c) / b = d at *
    have hlk : (digs (b * d)).length ≤ 5000 := by
      have := digs_mul_len (a := b) (m := d) (k := 1) l2 (by omega)
      omega
    have HMOD := Lib.hid hmod
    have HRND := Lib.hid hround
    have HSM := Lib.hid hsm
    have HM := Lib.hid hm5
    have HD := Lib.hid hd
    have HW0 : Hid (w1.heap.size < wc.heap.size) := Nat.lt_of_lt_of_le hsz hwin5.size
    clear hr5 hq5 hwin5 hmod hround hsm hm5 hd HS HVAL HQ3 HM3 HR3 hcell3 hfree3 hqb3 hqf3 hrb3 hrf3 hmb3 hby3 sz3 hwin3
    gi_wp2_with fail
    have hS : wc.drew.cell? ⟨w2.heap.size, 0, none⟩ = some (.func (.func 134) #[.slice a2 (digs b).length k2] #[]) ∧ wc.drew.cell? ⟨w.heap.size + 1, 0, none⟩ = some (.slice (some ⟨w.heap.size + 1 + 1 + 1, 0, none⟩) (digs a).length (digs a).length) ∧ wc.drew.cell? ⟨w.heap.size + 1 + 1 + 1, x.val, none⟩ = some (.int .i64 (d : Int)) := ⟨hby5, hqb5, hcell5⟩
    refine wpIn_region_round (fun W' => W'.cell? ⟨w2.heap.size, 0, none⟩ = some (.func (.func 134) #[.slice a2 (digs b).length k2] #[]) ∧ W'.cell? ⟨w.heap.size + 1, 0, none⟩ = some (.slice (some ⟨w.heap.size + 1 + 1 + 1, 0, none⟩) (digs a).length (digs a).length) ∧ W'.cell? ⟨w.heap.size + 1 + 1 + 1, x.val, none⟩ = some (.int .i64 (d : Int))) (by kernel_rfl) (by kernel_rfl) ?hL ?_
    case hL =>
      rintro ⟨a', w', h⟩
      exact h
    refine wpAnyH_take (i := 1) (v := .func (.func 134) #[.slice a2 (digs b).length k2] #[]) rfl (by kernel_rfl) (by kernel_rfl) (by kernel_rfl) (fun _ _ _ h => h) (Or.inl ⟨rfl, fun w' hSw => by obtain ⟨s2, s3, s4⟩ := hSw; go_simp⟩) hS ?_
    try simp only [Act.put, qb15a, qb15z, qb15s]
    refine wpAnyH_take (i := 2) (v := .slice (some ⟨w.heap.size + 1 + 1 + 1, 0, none⟩) (digs a).length (digs a).length) rfl (by kernel_rfl) (by kernel_rfl) (by kernel_rfl) (fun _ _ _ h => h) (Or.inl ⟨rfl, fun w' hSw => by obtain ⟨s2, s3, s4⟩ := hSw; go_simp⟩) hS ?_
    try simp only [Act.put, qb15a, qb15z, qb15s]
    refine wpAnyH_take (i := 3) (v := .int .i64 ((x.val : Nat) : Int)) rfl (by kernel_rfl) (by kernel_rfl) (by kernel_rfl) (fun _ _ _ h => h) (Or.inl ⟨rfl, fun w' hSw => by obtain ⟨s2, s3, s4⟩ := hSw; go_simp⟩) hS ?_
    try simp only [Act.put, qb15a, qb15z, qb15s]
    refine wpAnyH_take (i := 4) (v := .pointer (some ⟨w.heap.size + 1 + 1 + 1, x.val, none⟩)) rfl (by kernel_rfl) (by kernel_rfl) (by kernel_rfl) (fun _ _ _ h => h) (Or.inl ⟨rfl, fun w' hSw => by obtain ⟨s2, s3, s4⟩ := hSw; go_simp⟩) hS ?_
    try simp only [Act.put, qb15a, qb15z, qb15s]
    refine wpAnyH_take (i := 5) (v := .int .i64 (d : Int)) rfl (by kernel_rfl) (by kernel_rfl) (by kernel_rfl) (fun _ _ _ h => h) (Or.inl ⟨rfl, fun w' hSw => by obtain ⟨s2, s3, s4⟩ := hSw; go_simp⟩) hS ?_
    try simp only [Act.put, qb15a, qb15z, qb15s]
    refine wpAnyH_ready (rs := [0, 6]) (by kernel_rfl) (by simp) ?_
    refine AllReadyH.cons (o := _) rfl (fun K hK => ?_) (AllReadyH.cons (o := _) rfl (fun K hK => ?_) AllReadyH.nil)
    · go_simp
      refine hK.out _ _ hS (fun _ => ?_)
      clear hK K
      try simp only [Act.put, qb15a, qb15z, qb15s]
      refine wpAnyH_ready (rs := [6]) (by kernel_rfl) (by simp) ?_
      refine AllReadyH.cons (o := _) rfl (fun K hK => ?_) AllReadyH.nil
      go_simp
      refine (by_in _ b d _ (by exact HM5.out) (by omega) (by omega)).mono ?_
      rintro e W6 ⟨v6, rfl, hr6, hf6, hb6⟩
      have hrb6 := Below.get (w := wc.drew) hb6 hrb5
      have hrf6 := Below.unf (w := wc.drew) hb6 hrb5 hrf5
      have hS6 := And.intro (Below.get (w := wc.drew) hb6 hby5) (And.intro (Below.get (w := wc.drew) hb6 hqb5) (Below.get (w := wc.drew) hb6 hcell5))
      refine hK.out _ _ hS6 (fun _ => ?_)
      clear hK K
      try simp only [Act.put, qb15a, qb15z, qb15s]
      refine wpAnyH_ready (rs := [7]) (by kernel_rfl) (by simp) ?_
      refine AllReadyH.cons (o := _) rfl (fun K hK => ?_) AllReadyH.nil
      go_simp
      refine (minus_in _ _ (10000 * r0 + c) (b * d) _ (by exact Reads.below (w := wc.drew) HR5.out hb6) hr6 (by omega) hle).mono ?_
      rintro e W7 ⟨v7, rfl, hr7, hf7, hb7⟩
      rw [HMOD.out] at hr7
      obtain ⟨ar7, kr7, rfl, _⟩ := hr7.shape
      have hrb7 := Below.get hb7 hrb6
      have hrf7 := Below.unf hb7 hrb6 hrf6
      refine hK.out _ _ ⟨Below.get hb7 hS6.1, Below.get hb7 hS6.2.1, Below.get hb7 hS6.2.2⟩ (fun _ => ?_)
      clear hK K
      try simp only [Act.put, qb15a, qb15z, qb15s]
      refine wpAnyH_ready (rs := [8]) (by kernel_rfl) (by simp) ?_
      refine AllReadyH.cons (o := _) rfl (fun K hK => ?_) AllReadyH.nil
      go_simp
      refine hK.out _ _ ⟨setOther (Below.get hb7 hS6.1) (by have := HB1.out.size; omega) _, setOther (Below.get hb7 hS6.2.1) (by omega) _, setOther (Below.get hb7 hS6.2.2) (by omega) _⟩ (fun _ => ?_)
      clear hK K
      refine wpAnyH_done (by kernel_rfl) ?_ _
      have hb67 : Below wc.heap.size wc W7 := (Below.of_drew hb6).trans (hb7.mono hb6.size)
      have hwin7 : Win w.heap.size (w.heap.size + 4) W (W7.setCell ⟨w.heap.size + 1 + 1, 0, none⟩ (.slice ar7 (digs ((10000 * r0 + c) % b)).length kr7)) := (HWIN.out.trans (Win.of hb67)).trans (Win.set _ _ _ _ (by omega) (by omega))
      have hbut7 : But (w.heap.size + 1 + 1) wc (W7.setCell ⟨w.heap.size + 1 + 1, 0, none⟩ (.slice ar7 (digs ((10000 * r0 + c) % b)).length kr7)) := (But.of hb67).trans (But.set _ _ _ _)
      refine ⟨hwin7.keeps (by omega), ⟨hwin7.below (Nat.le_refl _) hB.size, hwin7.block _ hsz (.inr (by omega))⟩, ⟨⟨_, by rw [List.length_set]; exact HQL.out, HSM.out, HQ5.out.but hbut7 (by omega), by rw [HVX.out]; exact HRND.out⟩, setOther (Below.get hb67 hqb5) (by omega) _, by rw [World.frozen?_setCell]; exact Below.unf hb67 hqb5 hqf5, ⟨_, setSame hrb7 _, ?_, hf7.mono (by have := HW0.out; have : wc.heap.size ≤ W6.heap.size := hb6.size; omega)⟩, by rw [World.frozen?_setCell]; exact hrf7, setOther (Below.get hb67 hmb5) (by omega) _⟩, hB.trans (hwin7.below (Nat.le_refl _) hB.size), Nat.lt_of_lt_of_le hsz hwin7.size⟩
      rw [HVX.out, HM.out]
      exact hr7.setCell hrb7 (by simp) _
    · go_simp
      refine (by_in _ b d _ (by exact HM5.out) (by omega) (by omega)).mono ?_
      rintro e W6 ⟨v6, rfl, hr6, hf6, hb6⟩
      have hrb6 := Below.get (w := wc.drew) hb6 hrb5
      have hrf6 := Below.unf (w := wc.drew) hb6 hrb5 hrf5
      have hS6 := And.intro (Below.get (w := wc.drew) hb6 hby5) (And.intro (Below.get (w := wc.drew) hb6 hqb5) (Below.get (w := wc.drew) hb6 hcell5))
      refine hK.out _ _ hS6 (fun _ => ?_)
      clear hK K
      try simp only [Act.put, qb15a, qb15z, qb15s]
      refine wpAnyH_ready (rs := [0]) (by kernel_rfl) (by simp) ?_
      refine AllReadyH.cons (o := _) rfl (fun K hK => ?_) AllReadyH.nil
      go_simp
      refine hK.out _ _ hS6 (fun _ => ?_)
      clear hK K
      try simp only [Act.put, qb15a, qb15z, qb15s]
      refine wpAnyH_ready (rs := [7]) (by kernel_rfl) (by simp) ?_
      refine AllReadyH.cons (o := _) rfl (fun K hK => ?_) AllReadyH.nil
      go_simp
      refine (minus_in _ _ (10000 * r0 + c) (b * d) _ (by exact Reads.below (w := wc.drew) HR5.out hb6) hr6 (by omega) hle).mono ?_
      rintro e W7 ⟨v7, rfl, hr7, hf7, hb7⟩
      rw [HMOD.out] at hr7
      obtain ⟨ar7, kr7, rfl, _⟩ := hr7.shape
      have hrb7 := Below.get hb7 hrb6
      have hrf7 := Below.unf hb7 hrb6 hrf6
      refine hK.out _ _ ⟨Below.get hb7 hS6.1, Below.get hb7 hS6.2.1, Below.get hb7 hS6.2.2⟩ (fun _ => ?_)
      clear hK K
      try simp only [Act.put, qb15a, qb15z, qb15s]
      refine wpAnyH_ready (rs := [8]) (by kernel_rfl) (by simp) ?_
      refine AllReadyH.cons (o := _) rfl (fun K hK => ?_) AllReadyH.nil
      go_simp
      refine hK.out _ _ ⟨setOther (Below.get hb7 hS6.1) (by have := HB1.out.size; omega) _, setOther (Below.get hb7 hS6.2.1) (by omega) _, setOther (Below.get hb7 hS6.2.2) (by omega) _⟩ (fun _ => ?_)
      clear hK K
      refine wpAnyH_done (by kernel_rfl) ?_ _
      have hb67 : Below wc.heap.size wc W7 := (Below.of_drew hb6).trans (hb7.mono hb6.size)
      have hwin7 : Win w.heap.size (w.heap.size + 4) W (W7.setCell ⟨w.heap.size + 1 + 1, 0, none⟩ (.slice ar7 (digs ((10000 * r0 + c) % b)).length kr7)) := (HWIN.out.trans (Win.of hb67)).trans (Win.set _ _ _ _ (by omega) (by omega))
      have hbut7 : But (w.heap.size + 1 + 1) wc (W7.setCell ⟨w.heap.size + 1 + 1, 0, none⟩ (.slice ar7 (digs ((10000 * r0 + c) % b)).length kr7)) := (But.of hb67).trans (But.set _ _ _ _)
      refine ⟨hwin7.keeps (by omega), ⟨hwin7.below (Nat.le_refl _) hB.size, hwin7.block _ hsz (.inr (by omega))⟩, ⟨⟨_, by rw [List.length_set]; exact HQL.out, HSM.out, HQ5.out.but hbut7 (by omega), by rw [HVX.out]; exact HRND.out⟩, setOther (Below.get hb67 hqb5) (by omega) _, by rw [World.frozen?_setCell]; exact Below.unf hb67 hqb5 hqf5, ⟨_, setSame hrb7 _, ?_, hf7.mono (by have := HW0.out; have : wc.heap.size ≤ W6.heap.size := hb6.size; omega)⟩, by rw [World.frozen?_setCell]; exact hrf7, setOther (Below.get hb67 hmb5) (by omega) _⟩, hB.trans (hwin7.below (Nat.le_refl _) hB.size), Nat.lt_of_lt_of_le hsz hwin7.size⟩
      rw [HVX.out, HM.out]
      exact hr7.setCell hrb7 (by simp) _
  case done =>
    rintro D ys W hD hys ⟨⟨⟨qs, hql, hqs, hq, hqv⟩, hqb, hqf, ⟨rv, hrb, hrr, hrf⟩, hrfz, hmb⟩, hB, hsz⟩ hK
    rw [hys] at hqv hrr
    have hqv2 := hqv (downs_nodup _)
    rw [valB_all] at hqv2 hrr
    rw [← hql] at hqv2
    rw [valB_downs qs qs.length (Nat.le_refl _), Nat.sub_self, List.drop_zero] at hqv2
    have hdiv : ofD qs = a / b := by
      have h5 := Nat.div_add_mod a b
      have h6 : ofD qs * b = b * (a / b) := by omega
      rw [Nat.mul_comm] at h6
      exact Nat.eq_of_mul_eq_mul_left hb0 h6
    have htr : trimL qs = digs (a / b) := by rw [trimL_eq qs hqs, hdiv]
    obtain ⟨ar, kr, rfl, _⟩ := hrr.shape
    have hrd : Reads W (.slice (some ⟨w.heap.size + 1 + 1 + 1, 0, none⟩) (digs a).length (digs a).length) qs := by have := hq.reads; rwa [hql] at this
    have HRD := Lib.hid hrd
    have HTR := Lib.hid htr
    have HRR := Lib.hid hrr
    have HQL := Lib.hid hql
    have HRF := Lib.hid hrf
    clear hrd htr hrr hql hqv hqv2 hdiv hys hq hqs hW0 bN hbut cM0 cQ0 fQ0 cR0 fR0 hq0 hB0 cM cQ fQ cR fR HQ1 HB1 HZ h1 h2 hrf
    gi_wp2
    gi_region_with (gi_at_call 133; refine (callsIn_wide.2 (trimmed_in _ qs _ (by exact HRD.out) (by rw [HQL.out]; omega))).mono ?_; rintro e w' ⟨v', rfl, hr', hf', rfl⟩; rw [HTR.out] at hr'; obtain ⟨aq, kq, rfl, _⟩ := hr'.shape)
    all_goals
      gi_wp2
      have hD' : w.heap.size + 1 + 1 < D := by omega
      have hq5 : ((W.setCell ⟨w.heap.size + 1, 0, none⟩ (.slice aq (digs (a / b)).length kq)).setCell ⟨w.heap.size + 1 + 1, 0, none⟩ (.slice ar (digs (a % b)).length kr)).drew.cell? ⟨w.heap.size + 1, 0, none⟩ = some (.slice aq (digs (a / b)).length kq) := setOther (setSame hqb _) (by omega) _
      have hr5 : ((W.setCell ⟨w.heap.size + 1, 0, none⟩ (.slice aq (digs (a / b)).length kq)).setCell ⟨w.heap.size + 1 + 1, 0, none⟩ (.slice ar (digs (a % b)).length kr)).drew.cell? ⟨w.heap.size + 1 + 1, 0, none⟩ = some (.slice ar (digs (a % b)).length kr) := setSame (setOther hrb (by omega) _) _
      have hK5 : ((W.setCell ⟨w.heap.size + 1, 0, none⟩ (.slice aq (digs (a / b)).length kq)).setCell ⟨w.heap.size + 1 + 1, 0, none⟩ (.slice ar (digs (a % b)).length kr)).drew.heap[D]? = some (.deferred (some [])) := by
        show ((W.setCell ⟨w.heap.size + 1, 0, none⟩ (.slice aq (digs (a / b)).length kq)).setCell ⟨w.heap.size + 1 + 1, 0, none⟩ (.slice ar (digs (a % b)).length kr)).heap[D]? = _
        rw [Below.heap_setCell _ _ _ _ (by show D ≠ w.heap.size + 1 + 1; omega), Below.heap_setCell _ _ _ _ (by show D ≠ w.heap.size + 1; omega)]; exact hK
      have hrq : Reads ((W.setCell ⟨w.heap.size + 1, 0, none⟩ (.slice aq (digs (a / b)).length kq)).setCell ⟨w.heap.size + 1 + 1, 0, none⟩ (.slice ar (digs (a % b)).length kr)).drew (.slice aq (digs (a / b)).length kq) (digs (a / b)) := (hr'.setCell hqb (by simp) _).setCell (setOther hrb (by omega) _) (by simp) _
      have hrr : Reads ((W.setCell ⟨w.heap.size + 1, 0, none⟩ (.slice aq (digs (a / b)).length kq)).setCell ⟨w.heap.size + 1 + 1, 0, none⟩ (.slice ar (digs (a % b)).length kr)).drew (.slice ar (digs (a % b)).length kr) (digs (a % b)) := (HRR.out.setCell hqb (by simp) _).setCell (setOther hrb (by omega) _) (by simp) _
      have hB5 : Below w.heap.size w ((W.setCell ⟨w.heap.size + 1, 0, none⟩ (.slice aq (digs (a / b)).length kq)).setCell ⟨w.heap.size + 1 + 1, 0, none⟩ (.slice ar (digs (a % b)).length kr)).drew := ((hB.setCell (p := ⟨w.heap.size + 1, 0, none⟩) (by show w.heap.size ≤ w.heap.size + 1; omega) _).setCell (p := ⟨w.heap.size + 1 + 1, 0, none⟩) (by show w.heap.size ≤ w.heap.size + 1 + 1; omega) _).drew
      generalize ((W.setCell ⟨w.heap.size + 1, 0, none⟩ (.slice aq (digs (a / b)).length kq)).setCell ⟨w.heap.size + 1 + 1, 0, none⟩ (.slice ar (digs (a % b)).length kr)).drew = W5 at *
      refine ⟨by simp, .inl ⟨_, _, rfl, run_takeDeferred hK5, ?_⟩⟩
      have hg5 := grownBy_putObj' W5 D (.deferred none)
      have hr5' : ∀ r, some D = some r → ∃ o : Obj, W5.heap[r]? = some o ∧ o.isCells = false := fun r e => by cases e; exact ⟨_, hK5, rfl⟩
      have hcq := cell_kept hq5 hg5 hr5'
      have hcr := cell_kept hr5 hg5 hr5'
      refine ⟨.tuple #[.slice aq (digs (a / b)).length kq, .slice ar (digs (a % b)).length kr], ?_, _, _, rfl, hrq.kept hg5 hr5', hrr.kept hg5 hr5', hf' _ (fun a n c e => by simp only [Value.slice.injEq, Option.some.injEq] at e; rw [← e.1]; show w.heap.size ≤ w.heap.size + 1 + 1 + 1; omega), HRF.out.mono (by omega), hB5.trans (belowK_b (w := w) (Nat.le_refl _) W5 D _ _ (by omega) hK5 rfl rfl)⟩
      simp [results, Tryz.f94, go_sem, hcq, hcr]
  case stop =>
    rintro D c pre W hD _ h _
    exact h.elim
theorem over_in (v u : Value) (a b : Nat) (w : World) (h1 : Reads w v (digs a)) (h2 : Reads w u (digs b)) (l1 : (digs a).length ≤ 4000) (l2 : (digs b).length ≤ 4000) (hb0 : 0 < b) :
    Calls Tryz.prog 94 #[v, u] w (OverPost w.heap.size w a b) :=
  callsIn_wide.1 (over_wide v u a b w h1 h2 l1 l2 hb0)

end Go.Proofs.YtppbhnhmaocdnaaGreatDoor
