/- Walks and lemmas: slices.Backward over numbers, as a range over a function; comparing two numbers. comparing two numbers of package integer. -/
import Derived.RangeFuncNested
import Derived.RangeFuncBox
import Derived.RangeFuncLeaves
import Derived.RangeFuncBound
import Derived.RangeFuncCalls
import Derived.OwnWalkIn
import Derived.TacticsInMore
import Derived.LoopNIn
import Derived.LoopIn
import Derived.Test.YtppbhnhmaocdnaaGreatDoorB11
set_option linter.unusedVariables false
set_option linter.unusedSimpArgs false
namespace Go.Proofs.YtppbhnhmaocdnaaGreatDoor
open Go.RowKit Go.Shelf

attribute [local go_sem] Oper.semAt_some

def upto {α : Type} (f : Nat → α) (k : Nat) : List α := (List.range k).map f
theorem upto_succ {α : Type} (f : Nat → α) (k : Nat) : upto f (k + 1) = upto f k ++ [f k] := by simp [upto, List.range_succ]
theorem upto_length {α : Type} (f : Nat → α) (k : Nat) : (upto f k).length = k := by simp [upto]

def downs (n k : Nat) : List Nat := upto (fun j => n - 1 - j) k
def fvals {n : Nat} (l : List (Fin n)) : List Nat := l.map (fun x => x.val)
theorem fvals_snoc {n : Nat} (l : List (Fin n)) (x : Fin n) : fvals (l ++ [x]) = fvals l ++ [x.val] := by simp [fvals]
theorem fvals_length {n : Nat} (l : List (Fin n)) : (fvals l).length = l.length := by simp [fvals]
def itm (zs : List Nat) (i : Nat) : Nat := zs[i]?.getD 0
def yields (zs : List Nat) (x : Fin zs.length) : Array Value := #[Value.int .i64 ((x.val : Nat) : Int), Value.int .i64 ((itm zs x.val : Nat) : Int)]

structure KeepB (n₀ Bs : Nat) (A B : World) : Prop where
  below : Below n₀ A B
  box : B.heap[Bs]? = A.heap[Bs]?

theorem KeepB.trans {n₀ Bs : Nat} {A B C : World} (h : KeepB n₀ Bs A B) (k : KeepB n₀ Bs B C) : KeepB n₀ Bs A C := ⟨h.below.trans k.below, k.box.trans h.box⟩
theorem KeepB.refl (n₀ Bs : Nat) (A : World) : KeepB n₀ Bs A A := ⟨Below.refl _ _, rfl⟩
theorem KeepB.b {n₀ Bs : Nat} {w : World} (hn : n₀ ≤ w.heap.size) (hs : Bs < w.heap.size) (W : World) (l : Nat) (o o' : Obj) (hl : w.heap.size ≤ l) (h : W.heap[l]? = some o) (h1 : o.isCells = false) (h2 : o.isWalk = false) :
    KeepB n₀ Bs W (W.putObj l o') := ⟨belowK_b hn W l o o' hl h h1 h2, (belowK_b (n₀ := Bs + 1) hs W l o o' hl h h1 h2).block Bs (Nat.lt_succ_self _)⟩
theorem KeepB.cell {n₀ Bs : Nat} {A B : World} (h : KeepB n₀ Bs A B) (j : Nat) : B.cell? ⟨Bs, j, none⟩ = A.cell? ⟨Bs, j, none⟩ := World.cell?_of_block h.box

set_option maxRecDepth 100000 in
set_option maxHeartbeats 2000000 in
theorem back1_in (n : Nat) (hn : 1 ≤ n) (l Bs n₀ b off cap : Nat) (zs : List Nat) (hreach : zs.length ≤ 1000000) (hb : b < n₀) (J Jx : List (Fin zs.length) → World → Prop)
    (hY : ∀ pre x W, J pre W → pre.length < zs.length → YieldAt Fence.wide (n - 1) Tryz.prog l (yields zs x) W fun e W' =>
      (e = .returned (.bool true) ∧ J (pre ++ [x]) W' ∧ KeepB n₀ Bs W W') ∨ (e = .returned (.bool false) ∧ Jx (pre ++ [x]) W'))
    (W : World) (hBs : W.cell? ⟨Bs, 0, none⟩ = some (.slice (some ⟨b, off, none⟩) zs.length cap)) (hc : ∀ j, j < zs.length → W.cell? ⟨b, off + j, none⟩ = some (.int .i64 ((zs[j]?.getD 0 : Nat) : Int))) (h0 : J [] W) :
    CallsIn Fence.wide n Tryz.prog 157 #[.func (.yield l) #[] #[], .pointer (some ⟨Bs, 0, none⟩)] W fun e W' => (∃ v, e = .returned v) ∧
      ((∃ ys, fvals ys = downs zs.length zs.length ∧ J ys W') ∨ (∃ pre, (∃ k, k ≤ zs.length ∧ fvals pre = downs zs.length k) ∧ Jx pre W')) := by
  refine callsIn_of_wp Tryz.func157 rfl trivial ?_ rfl
  simp only [Tryz.ntmps157, List.size_toArray, List.length_cons, List.length_nil, Nat.reduceAdd, Nat.reduceSub, Array.replicate_succ, Array.replicate_zero, List.push_toArray, List.append_toArray, List.nil_append, List.cons_append]
  gi_wp2
  gi_loopw [3] (fun i wr => ∃ (k : Nat) (pre : List (Fin zs.length)), k ≤ zs.length ∧ i = .int .i64 ((zs.length : Int) - 1 - (k : Int)) ∧ fvals pre = downs zs.length k ∧ J pre wr ∧ KeepB n₀ Bs W wr)
    (fun i _ => (intOf i + 1).toNat)
  case atStart => exact ⟨0, [], Nat.zero_le _, by simp, rfl, h0, KeepB.refl _ _ _⟩
  case round =>
    obtain ⟨k, pre, hk, rfl, hpre, hJs, hnx⟩ := hrel
    have HP := Lib.hid hpre
    have hplen : pre.length = k := by rw [← fvals_length, hpre, downs, upto_length]
    have HPL := Lib.hid hplen
    clear hpre hplen
    by_cases hlt : k < zs.length
    · obtain ⟨j, hj⟩ : ∃ j : Nat, zs.length = k + j + 1 := ⟨zs.length - 1 - k, by omega⟩
      have hej : (zs.length : Int) - 1 - (k : Int) = (j : Int) := by omega
      have hba : downs zs.length (k + 1) = downs zs.length k ++ [j] := by
        rw [downs, upto_succ]
        have : zs.length - 1 - k = j := by omega
        rw [this]; rfl
      have hcx' : wr.cell? ⟨b, off + j, none⟩ = some (.int .i64 ((itm zs j : Nat) : Int)) := (hnx.below.cell (p := ⟨b, off + j, none⟩) hb).trans (hc j (by omega))
      have hbx : wr.cell? ⟨Bs, 0, none⟩ = some (.slice (some ⟨b, off, none⟩) zs.length cap) := (hnx.cell 0).trans hBs
      have hjl : j < zs.length := by omega
      obtain ⟨fn, tmps, assign, body, hy, hR⟩ := hY _ ⟨j, hjl⟩ wr hJs (by rw [HPL.out]; exact hlt)
      unfold yields at hy
      dsimp only at hy
      have HBA := Lib.hid hba
      have HJ := Lib.hid hj
      have HC := Lib.hid hc
      rw [hej]
      clear hba hj hej hc
      generalize hz : itm zs j = z at *
      have HZ := Lib.hid hz
      clear hz
      gi_wp2
      refine hR.mono ?_
      rintro e W3 (⟨rfl, hJ3, hk3⟩ | ⟨rfl, hJx3⟩)
      · gi_wp2
        go_roundw
        case rel => exact ⟨k + 1, _, by omega, by congr 1; have := HJ.out; omega, by rw [fvals_snoc, HP.out, HBA.out], hJ3, hnx.trans hk3⟩
        case measure => simp [intOf]
      · gi_wp2
        refine bodyPost_ret (results_none rfl _ _ _) rfl ?_
        exact ⟨⟨_, rfl⟩, .inr ⟨_, ⟨k + 1, by omega, by rw [fvals_snoc, HP.out, HBA.out]⟩, hJx3⟩⟩
    · obtain rfl : k = zs.length := by omega
      have e1 : (zs.length : Int) - 1 - (zs.length : Int) = -1 := by omega
      rw [e1]
      clear e1
      gi_wp2
      go_end0
      exact ⟨⟨_, rfl⟩, .inl ⟨_, HP.out, hJs⟩⟩

set_option maxRecDepth 100000 in
set_option maxHeartbeats 1000000 in
theorem back1_nil (n : Nat) (l Bs : Nat) (J : List (Fin 0) → World → Prop) (W : World) (hBs : W.cell? ⟨Bs, 0, none⟩ = some (.slice none 0 0)) (h0 : J [] W) :
    CallsIn Fence.wide n Tryz.prog 157 #[.func (.yield l) #[] #[], .pointer (some ⟨Bs, 0, none⟩)] W fun e W' => (∃ v, e = .returned v) ∧ J [] W' := by
  refine callsIn_of_wp Tryz.func157 rfl trivial ?_ rfl
  simp only [Tryz.ntmps157, List.size_toArray, List.length_cons, List.length_nil, Nat.reduceAdd, Nat.reduceSub, Array.replicate_succ, Array.replicate_zero, List.push_toArray, List.append_toArray, List.nil_append, List.cons_append]
  gi_wp2
  gi_loopw [3] (fun i wr => i = .int .i64 (-1) ∧ J [] wr) (fun _ _ => 0)
  case atStart => exact ⟨by rfl, h0⟩
  case round =>
    obtain ⟨rfl, hJs⟩ := hrel
    gi_wp2
    go_end0
    exact ⟨⟨_, rfl⟩, hJs⟩

set_option maxHeartbeats 1000000 in
theorem back_in (n : Nat) (a : Option Addr) (len cap : Nat) (w : World) :
    CallsIn Fence.wide n Tryz.prog 123 #[.slice a len cap] w fun e w' => e = .returned (.func (.func 157) #[] #[.pointer (some ⟨w.heap.size, 0, none⟩)]) ∧ w' = w.alloc (.cells #[.slice a len cap] 95) := by
  refine callsIn_of_wp Tryz.func123 rfl trivial ?_ rfl
  simp only [Tryz.ntmps123, List.size_toArray, List.length_cons, List.length_nil, Nat.reduceAdd, Nat.reduceSub, Array.replicate_succ, Array.replicate_zero, List.push_toArray, List.append_toArray, List.nil_append, List.cons_append]
  gi_wp2
  go_ret
  exact ⟨rfl, rfl⟩

theorem back_stops (n : Nat) (hn : 1 ≤ n) (Bs n₀ : Nat) (sv : Value) (zs : List Nat) (hreach : zs.length ≤ 1000000) (w : World) (hBs : Bs < w.heap.size)
    (hc : w.cell? ⟨Bs, 0, none⟩ = some sv) (w0 : World) (hw0 : w0.heap.size = n₀) (hB0 : Below n₀ w0 w) (hI : Reads w0 sv zs) :
    SeqStopsK Fence.wide n Tryz.prog 157 #[.pointer (some ⟨Bs, 0, none⟩)] (yields zs) (KeepB n₀ Bs) (fun ys => fvals ys = downs zs.length zs.length)
      (fun pre => ∃ k, k ≤ zs.length ∧ fvals pre = downs zs.length k) zs.length w := fun l J Jx W hW _ _ hY h0 => by
  have hc' := (hW.cell (p := ⟨Bs, 0, none⟩) hBs).trans hc
  have hBW : Below n₀ w0 W := hB0.trans (hW.mono (by have := hB0.size; omega))
  rcases hI with ⟨rfl, rfl⟩ | ⟨b, off, cap, rfl, hb, _, hcs⟩
  · exact (back1_nil n l Bs J W hc' h0).mono fun e W' ⟨he, hj⟩ => ⟨he, .inl ⟨_, rfl, hj⟩⟩
  · subst hw0
    exact back1_in n hn l Bs _ b off cap zs hreach hb J Jx hY W hc' (fun j hj => (hBW.cell (p := ⟨b, off + j, none⟩) hb).trans (hcs j hj)) h0
end Go.Proofs.YtppbhnhmaocdnaaGreatDoor
namespace Go.Proofs.YtppbhnhmaocdnaaGreatDoor
open Go.RowKit Go.Shelf

attribute [local go_sem] Oper.semAt_some

def cmpI (x y : Int) : Int := if x < y then -1 else if y < x then 1 else 0

set_option maxHeartbeats 400000 in
theorem cmp_any (x y : Int) (w : World) : Calls Tryz.prog 141 #[.int .i64 x, .int .i64 y] w fun e w' => e = .returned (.int .i64 (cmpI x y)) ∧ w' = w := by
  unfold cmpI
  rcases Int.lt_trichotomy x y with h | h | h
  · have h2 : ¬ y < x := by omega
    go_enter Tryz.func141, Tryz.ntmps141
    go_wp2
    go_ret
    exact ⟨by simp, rfl⟩
  · subst h
    have h1 : ¬ x < x := by omega
    go_enter Tryz.func141, Tryz.ntmps141
    go_wp2
    go_ret
    exact ⟨by simp, rfl⟩
  · have h2 : ¬ x < y := by omega
    go_enter Tryz.func141, Tryz.ntmps141
    go_wp2
    go_ret
    exact ⟨by simp, rfl⟩

theorem ofD_split (l : List Nat) (i : Nat) (h : i < l.length) : ofD l = ofD (l.take i) + 10000 ^ i * ((l[i]?.getD 0) + 10000 * ofD (l.drop (i + 1))) := by
  have e : l = l.take i ++ (l[i]?.getD 0 :: l.drop (i + 1)) := by
    rw [List.getElem?_eq_getElem h]
    simp
  conv => lhs; rw [e]
  rw [ofD_append, List.length_take, Nat.min_eq_left (by omega), ofD]

theorem cmp_lists (xs ys : List Nat) (hx : Small xs) (hy : Small ys) (hl : xs.length = ys.length) (i : Nat) (hi : i < xs.length) (hd : xs.drop (i + 1) = ys.drop (i + 1)) (hlt : xs[i]?.getD 0 < ys[i]?.getD 0) : ofD xs < ofD ys := by
  rw [ofD_split xs i hi, ofD_split ys i (by omega), hd]
  have h1 := ofD_lt (xs.take i) (fun d hd => hx d (List.mem_of_mem_take hd))
  rw [List.length_take, Nat.min_eq_left (by omega)] at h1
  generalize ofD (ys.drop (i + 1)) = D at *
  generalize xs[i]?.getD 0 = x at *
  generalize ys[i]?.getD 0 = y at *
  have h2 : 10000 ^ i * (x + 10000 * D) + 10000 ^ i * 1 ≤ 10000 ^ i * (y + 10000 * D) := by
    rw [← Nat.mul_add]; exact Nat.mul_le_mul_left _ (by omega)
  omega

theorem cmp_len (a b : Nat) (h : (digs a).length < (digs b).length) : a < b := by
  rcases Nat.lt_or_ge a b with h1 | h1
  · exact h1
  · exfalso
    have := (digs_length_le_iff b (digs a).length).2 (Nat.lt_of_le_of_lt h1 ((digs_length_le_iff a _).1 (Nat.le_refl _)))
    omega

theorem drop_eq {xs ys : List Nat} (hl : xs.length = ys.length) (k : Nat) (hk : k ≤ xs.length) (h : ∀ j, xs.length - k ≤ j → j < xs.length → xs[j]?.getD 0 = ys[j]?.getD 0) : xs.drop (xs.length - k) = ys.drop (xs.length - k) := by
  apply List.ext_getElem?
  intro j
  rw [List.getElem?_drop, List.getElem?_drop]
  rcases Nat.lt_or_ge (xs.length - k + j) xs.length with h1 | h1
  · have := h _ (by omega) h1
    rw [List.getElem?_eq_getElem h1, List.getElem?_eq_getElem (by omega)] at this ⊢
    simpa using this
  · rw [List.getElem?_eq_none h1, List.getElem?_eq_none (by omega)]

set_option maxRecDepth 100000 in
set_option maxHeartbeats 2000000 in
theorem compare_wide (v u : Value) (a b : Nat) (w : World) (h1 : Reads w v (digs a)) (h2 : Reads w u (digs b)) (l1 : (digs a).length ≤ 10000) (l2 : (digs b).length ≤ 10000) :
    CallsIn Fence.wide 5 Tryz.prog 98 #[v, u] w fun e w' => e = .returned (.int .i64 (cmpI a b)) ∧ Below w.heap.size w w' := by
  obtain ⟨a1, k1, rfl, _⟩ := h1.shape
  obtain ⟨a2, k2, rfl, _⟩ := h2.shape
  refine callsIn_of_wp_marks Tryz.func98 rfl trivial ?_ rfl
  simp only [Tryz.ntmps98, List.size_toArray, List.length_cons, List.length_nil, Nat.reduceAdd, Nat.reduceSub, Array.replicate_succ, Array.replicate_zero, List.push_toArray, List.append_toArray, List.nil_append, List.cons_append]
  have hfn : ∀ k, Fence.wide.fn k := fun _ => trivial
  rcases Nat.lt_trichotomy (digs a).length (digs b).length with h | h | h
  · have hab := cmp_len a b h
    have HC : Hid (cmpI ((digs a).length : Int) ((digs b).length : Int) = cmpI a b) := by
      show cmpI _ _ = cmpI _ _
      simp only [cmpI]; rw [if_pos (by omega), if_pos (by omega)]
    have hb0 : (((digs a).length : Int) != ((digs b).length : Int)) = true := by rw [bne_iff_ne]; omega
    clear h1 h2 hab
    gi_wp2_with (gi_at_call 141; refine (callsIn_wide.2 (cmp_any _ _ _)).mono ?_; rintro e w' ⟨rfl, rfl⟩)
    refine ⟨.int .i64 (cmpI ((digs a).length : Int) ((digs b).length : Int)), ?_, by rw [HC.out], (belowNew w _).alloc (by simp) _⟩
    simp [results, Tryz.f98, go_sem]
  · rw [← h]
    have HH := Lib.hid h
    clear h
    gi_wp2_with (gi_at_call 123; refine (back_in _ _ _ _ _).mono ?_; rintro e w' ⟨rfl, rfl⟩)
    have h2' := h2
    have bM := Boxed.new w 95 (.slice a2 (digs a).length k2)
    have bR := Boxed.new (w.alloc (.cells #[.slice a2 (digs a).length k2] 95)) 3 (.int .i64 0)
    have bN := Boxed.new ((w.alloc (.cells #[.slice a2 (digs a).length k2] 95)).alloc (.cells #[.int .i64 0] 3)) 95 (.slice a1 (digs a).length k1)
    rw [World.size_alloc] at bR bN
    rw [World.size_alloc] at bN
    have hB0 : Below w.heap.size w (((w.alloc (.cells #[.slice a2 (digs a).length k2] 95)).alloc (.cells #[.int .i64 0] 3)).alloc (.cells #[.slice a1 (digs a).length k1] 95)) := ((belowNew w _).alloc (by simp) _).alloc (by simp; omega) _
    refine wpIn_rangeFunc_ownG rfl (by omega) (gf := 157) (lb := #[.pointer (some ⟨w.heap.size + 1 + 1, 0, none⟩)]) rfl trivial (enters_of Tryz.func157 (by kernel_rfl) rfl)
      (back_stops 4 (by omega) (w.heap.size + 1 + 1) w.heap.size _ (digs a) (by omega) _ (by simp) bN.cell w rfl hB0 h1) KeepB.trans (KeepB.b (by simp; omega) (by simp)) (Below.refl _ _) (fun _ => rfl)
      (fun pre W => ((∀ p ∈ pre, itm (digs a) p.val = itm (digs b) p.val) ∧ W.cell? ⟨w.heap.size, 0, none⟩ = some (.slice a2 (digs a).length k2) ∧ W.cell? ⟨w.heap.size + 1, 0, none⟩ = some (.int .i64 0) ∧ W.frozen? ⟨w.heap.size + 1, 0, none⟩ = false) ∧ Below w.heap.size w W)
      (fun c pre W => (c = .ret ∧ ∃ ini last, pre = ini ++ [last] ∧ (∀ p ∈ ini, itm (digs a) p.val = itm (digs b) p.val) ∧ itm (digs a) last.val ≠ itm (digs b) last.val ∧ W.cell? ⟨w.heap.size + 1, 0, none⟩ = some (.int .i64 (cmpI (itm (digs a) last.val : Nat) (itm (digs b) last.val : Nat)))) ∧ Below w.heap.size w W)
      (OwnFrom.and (Own.from (fun s A B row hs hg hr => ⟨hs.1, cell_kept hs.2.1 hg hr, cell_kept hs.2.2.1 hg hr, (frozen_kept hs.2.2.1 hg hr).trans hs.2.2.2⟩) _) (ownFrom_below (Nat.le_refl _) (by simp; omega)))
      (fun c => OwnFrom.and (Own.from (fun s A B row hs hg hr => by obtain ⟨hc, ini, last, e1, e2, e3, e4⟩ := hs; exact ⟨hc, ini, last, e1, e2, e3, cell_kept e4 hg hr⟩) _) (ownFrom_below (Nat.le_refl _) (by simp; omega)))
      ⟨⟨by simp, ((bM.alloc _).alloc _).cell, (bR.alloc _).cell, (bR.alloc _).frozen⟩, hB0⟩
      (fun x => { tmps := #[.slice a1 (digs a).length k1, .slice a2 (digs a).length k2, undef, .pointer (some ⟨w.heap.size, 0, none⟩), .pointer (some ⟨w.heap.size + 1, 0, none⟩), .int .i64 ((x.val : Nat) : Int), .int .i64 ((itm (digs a) x.val : Nat) : Int), .slice a1 (digs a).length k1,
          .int .i64 (digs a).length, .slice a2 (digs a).length k2, .int .i64 (digs a).length, .bool false, undef, undef, undef, undef, undef, .slice a1 (digs a).length k1, .func (.func 157) #[] #[.pointer (some ⟨w.heap.size + 1 + 1, 0, none⟩)],
          .int .i64 ((x.val : Nat) : Int), .int .i64 ((itm (digs a) x.val : Nat) : Int), undef, undef, undef, undef, undef, undef, undef, undef, undef, undef, undef, undef], defers := [] }) ?assign ?body ?done ?stop
    case assign =>
      intro l x W K hK
      unfold yields
      gi_wp2
      exact hK
    case body =>
      rintro l pre x W ⟨⟨hp, hcm, hcr, hfr⟩, hB⟩ _
      have hlx : x.val < (digs b).length := by rw [← HH.out]; exact x.isLt
      have hcb : ∃ bb off, a2 = some ⟨bb, off, none⟩ ∧ bb < w.heap.size ∧ W.cell? ⟨bb, off + x.val, none⟩ = some (.int .i64 ((itm (digs b) x.val : Nat) : Int)) := by
        rcases h2' with ⟨e1, e2⟩ | ⟨bb, off, cap, e1, e2, _, e3⟩
        · rw [e2] at hlx; exact absurd hlx (by simp)
        · simp only [Value.slice.injEq] at e1
          obtain ⟨rfl, _, _⟩ := e1
          exact ⟨bb, off, rfl, e2, (hB.cell (p := ⟨bb, off + x.val, none⟩) e2).trans (e3 _ hlx)⟩
      obtain ⟨bb, off, rfl, hbb, hcb⟩ := hcb
      have hxl : x.val < (digs a).length := x.isLt
      have h1a := Lib.hid h1
      have h2a := Lib.hid h2
      have h2b := Lib.hid h2'
      have hpa := Lib.hid hp
      clear h1 h2 h2' hp hlx
      generalize hya : itm (digs a) x.val = ya at *
      generalize hyb : itm (digs b) x.val = yb at *
      have HYA := Lib.hid hya
      have HYB := Lib.hid hyb
      clear hya hyb
      by_cases hne : ya = yb
      · subst hne
        have hb0 : ((ya : Int) != (ya : Int)) = false := by simp
        gi_wp2
        exact ⟨KeepsFrom.refl _ _, KeepB.refl _ _ _, ⟨fun p hp' => (List.mem_append.1 hp').elim (hpa.out p) (fun e => by simp at e; subst e; rw [HYA.out, HYB.out]), hcm, hcr, hfr⟩, hB⟩
      · have hb0 : ((ya : Int) != (yb : Int)) = true := by rw [bne_iff_ne]; omega
        have HNE := Lib.hid hne
        clear hne
        gi_wp2_with fail
        refine (CallsIn.inRound l (callsIn_wide.2 (cmp_any _ _ _))).mono ?_
        rintro e w' ⟨rfl, rfl⟩
        gi_wp2
        exact ⟨(KeepsOthers.setCell _ _ _).from _, ⟨rfl, pre, x, rfl, hpa.out, by rw [HYA.out, HYB.out]; exact HNE.out, by rw [HYA.out, HYB.out]; exact World.cell?_setCell_same' _ _ _ (by rw [hcr]; rfl)⟩, hB.setCell (p := ⟨w.heap.size + 1, 0, none⟩) (Nat.le_succ _) _⟩
    case done =>
      rintro D ys W hD hys ⟨⟨hne, hcm, hcr, hfr⟩, hB⟩ hK
      have hab : a = b := by
        have hd := drop_eq HH.out (digs a).length (Nat.le_refl _) (fun j _ hj => by
          have hm : j ∈ fvals ys := by
            rw [hys]; simp only [downs, upto, List.mem_map, List.mem_range]; exact ⟨(digs a).length - 1 - j, by omega, by omega⟩
          obtain ⟨x, hx, hxj⟩ := List.mem_map.1 hm
          have := hne x hx
          simp only [hxj] at this
          exact this)
        simp at hd
        rw [← ofD_digs a, ← ofD_digs b, hd]
      have HAB := Lib.hid hab
      clear hab hne hys h1 h2 h2'
      gi_wp2
      have hK' := (KeepsOthers.setCell W ⟨w.heap.size + 1, 0, none⟩ (.int .i64 0)).same D _ hK rfl
      refine ⟨by simp, .inl ⟨_, _, rfl, run_takeDeferred hK', ?_⟩⟩
      have hc5 := cell_kept (World.cell?_setCell_same' W ⟨w.heap.size + 1, 0, none⟩ (.int .i64 0) (by rw [hcr]; rfl)) (grownBy_putObj' _ D (.deferred none)) (fun r e => by cases e; exact ⟨_, hK', rfl⟩)
      refine ⟨.int .i64 0, ?_, by rw [HAB.out]; simp [cmpI], (hB.setCell (p := ⟨w.heap.size + 1, 0, none⟩) (Nat.le_succ _) _).trans (belowK_b (w := w) (Nat.le_refl _) _ D _ _ (by simp at hD; omega) hK' rfl rfl)⟩
      simp [results, Tryz.f98, go_sem, hc5]
    case stop =>
      rintro D c pre W hD ⟨k, hk, hpre⟩ ⟨⟨rfl, ini, last, rfl, e2, e3, hcr⟩, hB⟩ hK
      have hcmp : cmpI (itm (digs a) last.val : Nat) (itm (digs b) last.val : Nat) = cmpI a b := by
        rw [fvals_snoc] at hpre
        obtain ⟨k', rfl⟩ : ∃ k', k = k' + 1 := by
          cases k with
          | zero => simp [downs, upto] at hpre
          | succ k' => exact ⟨k', rfl⟩
        rw [downs, upto_succ] at hpre
        obtain ⟨e4, e5⟩ := List.append_inj' hpre rfl
        have e6 : last.val = (digs a).length - 1 - k' := by simpa using e5
        have hd := drop_eq HH.out k' (by omega) (fun j h1 hj => by
          have hm : j ∈ fvals ini := by
            rw [e4]; simp only [upto, List.mem_map, List.mem_range]; exact ⟨(digs a).length - 1 - j, by omega, by omega⟩
          obtain ⟨x, hx, hxj⟩ := List.mem_map.1 hm
          have := e2 x hx
          simp only [hxj] at this
          exact this)
        have e7 : (digs a).length - k' = last.val + 1 := by omega
        rw [e7] at hd
        have hlen := HH.out
        rcases Nat.lt_trichotomy (itm (digs a) last.val) (itm (digs b) last.val) with h | h | h
        · have := cmp_lists (digs a) (digs b) (digs_small a) (digs_small b) hlen last.val last.isLt hd h
          rw [ofD_digs, ofD_digs] at this
          simp only [cmpI]; rw [if_pos (by omega), if_pos (by omega)]
        · exact absurd h e3
        · have := cmp_lists (digs b) (digs a) (digs_small b) (digs_small a) hlen.symm last.val (by omega) hd.symm h
          rw [ofD_digs, ofD_digs] at this
          simp only [cmpI]; rw [if_neg (by omega), if_pos (by omega), if_neg (by omega), if_pos (by omega)]
      have HCM := Lib.hid hcmp
      clear hcmp hpre e2 e3 h1 h2 h2'
      gi_wp2
      refine ⟨by simp, .inl ⟨_, _, rfl, run_takeDeferred hK, ?_⟩⟩
      have hc5 := cell_kept hcr (grownBy_putObj' _ D (.deferred none)) (fun r e => by cases e; exact ⟨_, hK, rfl⟩)
      refine ⟨_, ?_, by rw [← HCM.out], hB.trans (belowK_b (w := w) (Nat.le_refl _) W D _ _ (by simp at hD; omega) hK rfl rfl)⟩
      simp [results, Tryz.f98, go_sem, hc5]
  · have hab := cmp_len b a h
    have HC : Hid (cmpI ((digs a).length : Int) ((digs b).length : Int) = cmpI a b) := by
      show cmpI _ _ = cmpI _ _
      simp only [cmpI]; rw [if_neg (by omega), if_pos (by omega), if_neg (by omega), if_pos (by omega)]
    have hb0 : (((digs a).length : Int) != ((digs b).length : Int)) = true := by rw [bne_iff_ne]; omega
    clear h1 h2 hab
    gi_wp2_with (gi_at_call 141; refine (callsIn_wide.2 (cmp_any _ _ _)).mono ?_; rintro e w' ⟨rfl, rfl⟩)
    refine ⟨.int .i64 (cmpI ((digs a).length : Int) ((digs b).length : Int)), ?_, by rw [HC.out], (belowNew w _).alloc (by simp) _⟩
    simp [results, Tryz.f98, go_sem]

theorem compare_in (v u : Value) (a b : Nat) (w : World) (h1 : Reads w v (digs a)) (h2 : Reads w u (digs b)) (l1 : (digs a).length ≤ 10000) (l2 : (digs b).length ≤ 10000) :
    Calls Tryz.prog 98 #[v, u] w fun e w' => e = .returned (.int .i64 (cmpI a b)) ∧ Below w.heap.size w w' :=
  callsIn_wide.1 (compare_wide v u a b w h1 h2 l1 l2)

end Go.Proofs.YtppbhnhmaocdnaaGreatDoor
