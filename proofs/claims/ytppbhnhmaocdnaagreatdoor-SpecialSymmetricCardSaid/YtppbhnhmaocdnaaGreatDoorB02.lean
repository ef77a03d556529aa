/- append(number{d}, xs...) inside a fence; what a step of a loop's own record keeps. -/
import Derived.Test.YtppbhnhmaocdnaaGreatDoorB01
import Derived.OwnWalkIn
import Derived.RangeFuncOwn
import Derived.RangeFuncWrites
set_option linter.unusedVariables false
set_option linter.unusedSimpArgs false
namespace Go.Proofs.YtppbhnhmaocdnaaGreatDoor
open Go.RowKit

theorem wpListIn_own_none {F : Fence} {n : Nat} {P : Program} {w : World} {ops : Array Oper} {rest : List Oper} {o : Oper} {a : Act} {Q : Exit → Act → World → Prop} (hgd : o.guard = none) (s x : Operand) (t : TypeId)
    (ho : o.op = .call { callee := .builtin .append, args := #[s, x], argTypes := #[t, t] })
    (base : Nat) (e : TypeId) (i : TypeInfo) (size : Nat) (ht : P.underlying t = some (.slice e)) (hi : P.info? e = some i)
    (v : Value) (k : Nat) (xs : List Value) (hs : a.eval s = v) (hown : w.ownsRow base e size v k xs) (hx : a.eval x = .slice none 0 0)
    (h : wpListIn F n P ops Q rest (a.put o.dst v) w) : wpListIn F n P ops Q (o :: rest) a w := by
  refine wpListIn_plain hgd fun K hK => ?_
  have hrun := run_append_owned_none (P := P) (w := w) base t o.type e i size ht hi v k xs hown
  unfold Oper.wpIn
  refine ⟨?_, ?_⟩
  · simp [Oper.about, ho, resolve, Target.leads, Sem.run_pure]
  · rw [Oper.semAt_plain F _ _ (by rw [ho]; intro c hc'; cases hc')]
    simp [execOp, ho, resolve, invoke, builtin, hs, hx, hrun, Result.andThen]
    exact hK _ _ h

theorem wpListIn_append_cons {F : Fence} {n : Nat} {P : Program} {ops : Array Oper} {rest : List Oper} {o : Oper} {a : Act} {Q : Exit → Act → World → Prop} (hgd : o.guard = none) (s x : Operand) (t : TypeId)
    (ho : o.op = .call { callee := .builtin .append, args := #[s, x], argTypes := #[t, t] }) (ht : P.underlying t = some (.slice 3))
    (hinf : (P.info? 3).map (fun i => (i.zero, i.size, i.bytes)) = some (some (.int .i64 0), 1, 8))
    (W : World) (d : Nat) (v : Value) (xs : List Nat) (hs : a.eval s = .slice (some ⟨W.heap.size, 0, none⟩) 1 1) (hx : a.eval x = v) (hr : Reads W v xs) (hk : xs.length ≤ 1000000)
    (h : ∀ v' w', Reads w' v' (d :: xs) → From W.heap.size v' → Below W.heap.size W w' → wpListIn F n P ops Q rest (a.put o.dst v') w') :
    wpListIn F n P ops Q (o :: rest) a (W.alloc (.cells #[.int .i64 (d : Int)] 3)) := by
  obtain ⟨i0, hi, hz0, hz1, hz2⟩ := info_parts hinf
  have hown := ownsNew W d
  have hr2 := hr.below (belowNew W (.cells #[.int .i64 (d : Int)] 3))
  rcases hr2 with ⟨rfl, rfl⟩ | ⟨b, off, cap, rfl, h1, h2, h3⟩
  · refine wpListIn_own_none hgd s x t ho W.heap.size 3 i0 1 ht hi _ 1 _ hs hown hx ?_
    exact h _ _ (Reads.of_owns (l := [d]) hown) (From.of_owns hown) (belowNew W _)
  · refine wpListIn_append_own _ hgd s x t ho W.heap.size 3 i0 (.int .i64 0) 1 8 ht hi hz0 hz1 hz2 rfl (by decide) _ 1 _ hs hown ⟨b, off, none⟩ xs.length cap (xs.map fun d : Nat => Value.int .i64 (d : Int)) hx (by simp) ?_ ?_ ?_ ?_ ?_ ?_
    · intro j u hj
      have hjl : j < xs.length := by
        rcases Nat.lt_or_ge j xs.length with h9 | h9
        · exact h9
        · rw [List.getElem?_eq_none (by simpa using h9)] at hj; cases hj
      have := h3 j hjl
      rw [List.getElem?_map, List.getElem?_eq_getElem hjl] at hj
      simp only [Option.map_some, Option.some.injEq] at hj
      subst hj
      have ea : (⟨b, off, none⟩ : Addr).add j = ⟨b, off + j, none⟩ := by
        cases j with
        | zero => rfl
        | succ j => simp [Addr.add]
      rw [ea, this, List.getElem?_eq_getElem hjl]
      rfl
    · intro u hu
      obtain ⟨y, _, rfl⟩ := List.mem_map.1 hu
      rfl
    · unfold maxLen; omega
    · omega
    · rw [sizeNew]; omega
    · intro v' w' e1 e2 _
      have e3 : w'.ownsRow W.heap.size 3 1 v' (1 + xs.length) ((d :: xs).map fun d : Nat => Value.int .i64 (d : Int)) := by simpa using e1
      refine h v' w' (Reads.of_owns e3) (From.of_owns e3) ((belowNew W _).grown e2 (by rw [sizeNew]; omega) ?_)
      intro k' hk'
      simp [Value.ownBlock] at hk'; omega

theorem Reads.kept {A B : World} {row : Option Nat} {v : Value} {xs : List Nat} (h : Reads A v xs) (hg : A.grownBy B row) (hr : ∀ r, row = some r → ∃ o : Obj, A.heap[r]? = some o ∧ o.isCells = false) : Reads B v xs := by
  rcases h with h | ⟨b, off, cap, e, h1, h2, h3⟩
  · exact .inl h
  · exact .inr ⟨b, off, cap, e, Nat.lt_of_lt_of_le h1 hg.size, h2, fun j hj => cell_kept (h3 j hj) hg hr⟩

structure But (p : Nat) (W W' : World) : Prop where
  os : W'.os = W.os
  tape : W'.tape = W.tape
  output : W'.output = W.output
  size : W.heap.size ≤ W'.heap.size
  block : ∀ k, k < W.heap.size → k ≠ p → W'.heap[k]? = W.heap[k]?

theorem But.of {p : Nat} {W W' : World} (h : Below W.heap.size W W') : But p W W' := ⟨h.os, h.tape, h.output, h.size, fun k hk _ => h.block k hk⟩
theorem But.refl (p : Nat) (W : World) : But p W W := ⟨rfl, rfl, rfl, Nat.le_refl _, fun _ _ _ => rfl⟩
theorem But.set (W : World) (p o : Nat) (u : Value) : But p W (W.setCell ⟨p, o, none⟩ u) :=
  ⟨rfl, rfl, rfl, by rw [sizeSet]; exact Nat.le_refl _, fun k _ hk => Below.heap_setCell _ _ _ _ hk⟩
theorem But.trans {p : Nat} {A B C : World} (h : But p A B) (k : But p B C) : But p A C :=
  ⟨k.os.trans h.os, k.tape.trans h.tape, k.output.trans h.output, Nat.le_trans h.size k.size, fun i hi hp => (k.block i (Nat.lt_of_lt_of_le hi h.size) hp).trans (h.block i hi hp)⟩
theorem But.drew {p : Nat} {A B : World} (h : But p A B) : But p A B.drew := ⟨h.os, h.tape, h.output, h.size, h.block⟩
theorem But.below {p B : Nat} {W W' : World} (h : But p W W') (h1 : B ≤ p) (h2 : B ≤ W.heap.size) : Below B W W' :=
  ⟨h.os, h.tape, h.output, h.size, fun k hk => h.block k (by omega) (by omega)⟩
theorem But.keeps {p B : Nat} {W W' : World} (h : But p W W') (h1 : p < B) : KeepsFrom B W W' :=
  ⟨h.size, fun k o hB hk _ => (h.block k (Array.getElem?_eq_some_iff.1 hk).1 (by omega)).trans hk⟩
theorem But.cell {p : Nat} {W W' : World} (h : But p W W') {b o : Nat} {x : Value} (hb : b ≠ p) (hc : W.cell? ⟨b, o, none⟩ = some x) : W'.cell? ⟨b, o, none⟩ = some x := by
  have hlt : b < W.heap.size := by
    rcases Nat.lt_or_ge b W.heap.size with h9 | h9
    · exact h9
    · exfalso; simp only [World.cell?] at hc; rw [Array.getElem?_eq_none h9] at hc; cases hc
  exact (World.cell?_of_block (h.block b hlt hb)).trans hc

structure Win (lo hi : Nat) (W W' : World) : Prop where
  os : W'.os = W.os
  tape : W'.tape = W.tape
  output : W'.output = W.output
  size : W.heap.size ≤ W'.heap.size
  block : ∀ k, k < W.heap.size → (k < lo ∨ hi ≤ k) → W'.heap[k]? = W.heap[k]?

theorem Win.refl (lo hi : Nat) (W : World) : Win lo hi W W := ⟨rfl, rfl, rfl, Nat.le_refl _, fun _ _ _ => rfl⟩
theorem Win.of {lo hi : Nat} {W W' : World} (h : Below W.heap.size W W') : Win lo hi W W' := ⟨h.os, h.tape, h.output, h.size, fun k hk _ => h.block k hk⟩
theorem Win.set {lo hi : Nat} (W : World) (p o : Nat) (u : Value) (h1 : lo ≤ p) (h2 : p < hi) : Win lo hi W (W.setCell ⟨p, o, none⟩ u) :=
  ⟨rfl, rfl, rfl, by rw [sizeSet]; exact Nat.le_refl _, fun k _ hk => Below.heap_setCell _ _ _ _ (by show k ≠ p; omega)⟩
theorem Win.trans {lo hi : Nat} {A B C : World} (h : Win lo hi A B) (k : Win lo hi B C) : Win lo hi A C :=
  ⟨k.os.trans h.os, k.tape.trans h.tape, k.output.trans h.output, Nat.le_trans h.size k.size, fun i hi hp => (k.block i (Nat.lt_of_lt_of_le hi h.size) hp).trans (h.block i hi hp)⟩
theorem Win.drew {lo hi : Nat} {A B : World} (h : Win lo hi A B) : Win lo hi A B.drew := ⟨h.os, h.tape, h.output, h.size, h.block⟩
theorem Win.below {lo hi B : Nat} {W W' : World} (h : Win lo hi W W') (h1 : B ≤ lo) (h2 : B ≤ W.heap.size) : Below B W W' :=
  ⟨h.os, h.tape, h.output, h.size, fun k hk => h.block k (by omega) (by omega)⟩
theorem Win.keeps {lo hi B : Nat} {W W' : World} (h : Win lo hi W W') (h1 : hi ≤ B) : KeepsFrom B W W' :=
  ⟨h.size, fun k o hB hk _ => (h.block k (Array.getElem?_eq_some_iff.1 hk).1 (by omega)).trans hk⟩

end Go.Proofs.YtppbhnhmaocdnaaGreatDoor
