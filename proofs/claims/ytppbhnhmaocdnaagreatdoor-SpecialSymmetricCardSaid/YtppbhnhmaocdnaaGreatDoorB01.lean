/- Slices of whole numbers in memory: what a slice value reads as; of no program. -/
import Derived.WalkKit
import Derived.WalkSpells
import Derived.Deep.QuietTactic
import Derived.Laws.AppendOwnNone
set_option linter.unusedVariables false
set_option linter.unusedSimpArgs false
namespace Go.Proofs.YtppbhnhmaocdnaaGreatDoor
open Go.RowKit

def Reads (w : World) (v : Value) (xs : List Nat) : Prop :=
  (v = .slice none 0 0 ∧ xs = []) ∨ ∃ b off cap, v = .slice (some ⟨b, off, none⟩) xs.length cap ∧ b < w.heap.size ∧ xs.length ≤ cap ∧
    ∀ j, j < xs.length → w.cell? ⟨b, off + j, none⟩ = some (.int .i64 ((xs[j]?.getD 0 : Nat) : Int))

theorem Reads.below {w w' : World} {v : Value} {xs : List Nat} (h : Reads w v xs) (hb : Below w.heap.size w w') : Reads w' v xs := by
  rcases h with h | ⟨b, off, cap, e, h1, h2, h3⟩
  · exact .inl h
  · exact .inr ⟨b, off, cap, e, Nat.lt_of_lt_of_le h1 hb.size, h2, fun j hj => (hb.cell (p := ⟨b, off + j, none⟩) h1).trans (h3 j hj)⟩

theorem Reads.shape {w : World} {v : Value} {xs : List Nat} (h : Reads w v xs) : ∃ a cap, v = .slice a xs.length cap ∧ xs.length ≤ cap := by
  rcases h with ⟨rfl, rfl⟩ | ⟨b, off, cap, rfl, _, h, _⟩
  · exact ⟨none, 0, rfl, Nat.le_refl _⟩
  · exact ⟨_, _, rfl, h⟩

theorem Reads.drewN {w : World} {v : Value} {xs : List Nat} (h : Reads w v xs) (q : Nat) : Reads (w.drewN q) v xs := h
theorem Below.drewN' {B : Nat} {a w : World} (h : Below B a w) (q : Nat) : Below B a (w.drewN q) := ⟨h.os, h.tape, h.output, h.size, h.block⟩

def From (B : Nat) (v : Value) : Prop := ∀ a n c, v = .slice (some a) n c → B ≤ a.block
theorem From.mono {B B' : Nat} {v : Value} (h : From B v) (hB : B' ≤ B) : From B' v := fun a n c e => Nat.le_trans hB (h a n c e)
theorem From.nil (B n c : Nat) : From B (.slice none n c) := fun a n c e => by simp at e
theorem From.cut {B : Nat} {a : Option Addr} {n c n' c' : Nat} (h : From B (.slice a n c)) : From B (.slice a n' c') := fun b m d e => by
  simp only [Value.slice.injEq] at e
  exact h b n c (by rw [e.1])
theorem From.of_owns {w : World} {base e size n : Nat} {v : Value} {xs : List Value} (h : w.ownsRow base e size v n xs) : From base v := by
  obtain ⟨_, h⟩ := h
  rcases h with ⟨rfl, _⟩ | ⟨g, cap, cur, rfl, hg, _⟩
  · exact From.nil _ _ _
  · intro a n c e; simp only [Value.slice.injEq, Option.some.injEq] at e; rw [← e.1]; exact hg

theorem Reads.nil (w : World) : Reads w (.slice none 0 0) [] := .inl ⟨rfl, rfl⟩


theorem wpList_append_one {P : Program} {ops : Array Oper} {rest : List Oper} {o : Oper} {a : Act} {Q : Exit → Act → World → Prop} (hgd : o.guard = none) (s x : Operand) (t : TypeId)
    (ho : o.op = .call { callee := .builtin .append, args := #[s, x], argTypes := #[t, t] }) (ht : P.underlying t = some (.slice 3))
    (hinf : (P.info? 3).map (fun i => (i.zero, i.size, i.bytes)) = some (some (.int .i64 0), 1, 8))
    (base : Nat) (W : World) (z : Int) (v : Value) (k : Nat) (xs : List Value) (hs : a.eval s = v) (hown : W.ownsRow base 3 1 v k xs)
    (hx : a.eval x = .slice (some ⟨W.heap.size, 0, none⟩) 1 1) (hk : k ≤ 1000000) (hbase : base ≤ W.heap.size)
    (h : ∀ v' w', w'.ownsRow base 3 1 v' (k + 1) (xs ++ [.int .i64 z]) → Below base W w' → wpList P ops Q rest (a.put o.dst v') w') :
    wpList P ops Q (o :: rest) a (W.alloc (.cells #[.int .i64 z] 3)) := by
  obtain ⟨i0, hi, hz0, hz1, hz2⟩ := info_parts hinf
  refine wpList_append_own _ hgd s x t ho base 3 i0 (.int .i64 0) 1 8 ht hi hz0 hz1 hz2 rfl (by decide) v k xs hs (hown.alloc _) ⟨W.heap.size, 0, none⟩ 1 1 [.int .i64 z] hx rfl ?_ ?_ ?_ ?_ ?_ ?_
  · intro j u hj
    match j, hj with
    | 0, hj => simp at hj; subst hj; simp [Addr.add]
  · intro u hu; simp at hu; subst hu; rfl
  · unfold maxLen; omega
  · omega
  · simp; omega
  · intro v' w' h1 h2 _
    refine h v' w' h1 (((Below.refl base W).alloc hbase _).grown h2 (by simp; omega) ?_)
    intro k' hk'
    rcases hown with ⟨_, ⟨rfl, _⟩ | ⟨g, cap, cur, rfl, hg, _⟩⟩
    · cases hk'
    · simp [Value.ownBlock] at hk'; omega

theorem Reads.of_owns {w : World} {base : Nat} {v : Value} {n : Nat} {l : List Nat} (h : w.ownsRow base 3 1 v n (l.map fun d : Nat => Value.int .i64 (d : Int))) : Reads w v l := by
  obtain ⟨hlen, h⟩ := h
  simp at hlen
  rcases h with ⟨rfl, h0⟩ | ⟨g, cap, cur, rfl, hg, hh, h1, h2, h3, h4⟩
  · exact .inl ⟨rfl, List.length_eq_zero_iff.1 (by omega)⟩
  · subst hlen
    have hlt : g < w.heap.size := by
      rcases Nat.lt_or_ge g w.heap.size with h9 | h9
      · exact h9
      · rw [Array.getElem?_eq_none h9] at hh; cases hh
    refine .inr ⟨g, 0, cap, rfl, hlt, h1, fun j hj => ?_⟩
    simp only [World.cell?, hh]
    have e1 : cur.toList[j]? = some (Value.int .i64 ((l[j]?.getD 0 : Nat) : Int)) := by
      have : (cur.toList.take (l.length * 1))[j]? = (l.map fun d : Nat => Value.int .i64 (d : Int))[j]? := by rw [h4]
      rw [List.getElem?_take, if_pos (by omega)] at this
      rw [this, List.getElem?_map, List.getElem?_eq_getElem hj]
      rfl
    simpa using e1


theorem cellAt (w : World) (C : Array Value) (t : TypeId) (j : Nat) (b : Nat) (hb : b = w.heap.size) : (w.alloc (.cells C t)).cell? ⟨b, j, none⟩ = C[j]? := by
  subst hb
  show (match (w.heap.push (.cells C t (0, 0)))[w.heap.size]? with | some (.cells c _ _) => (if (none : Option _).isSome then none else c[j]?) | _ => none) = _
  rw [Array.getElem?_push, if_pos rfl]
  rfl

theorem belowNew (w : World) (o : Obj) : Below w.heap.size w (w.alloc o) := (Below.refl _ w).alloc (Nat.le_refl _) o

theorem cellOld {w : World} {o : Obj} {p : Addr} {x : Value} (hp : p.block < w.heap.size) (h : w.cell? p = some x) : (w.alloc o).cell? p = some x :=
  ((belowNew w o).cell hp).trans h

theorem sizeNew (w : World) (o : Obj) : (w.alloc o).heap.size = w.heap.size + 1 := by simp

theorem ownsNew (W : World) (d : Nat) : (W.alloc (.cells #[.int .i64 (d : Int)] 3)).ownsRow W.heap.size 3 1 (.slice (some ⟨W.heap.size, 0, none⟩) 1 1) 1 [.int .i64 (d : Int)] := by
  refine ⟨rfl, .inr ⟨W.heap.size, 1, #[.int .i64 (d : Int)], rfl, Nat.le_refl _, ?_, Nat.le_refl _, by unfold maxLen; omega, rfl, rfl⟩⟩
  show (W.heap.push _)[W.heap.size]? = _
  rw [Array.getElem?_push, if_pos rfl]

theorem Reads.setCell {w : World} {v : Value} {xs : List Nat} (h : Reads w v xs) {p : Addr} {y : Value} (hp : w.cell? p = some y) (hy : ∀ k n, y ≠ .int k n) (u : Value) : Reads (w.setCell p u) v xs := by
  rcases h with h | ⟨b, off, cap, e, h1, h2, h3⟩
  · exact .inl h
  · refine .inr ⟨b, off, cap, e, by simpa [World.setCell] using h1, h2, fun j hj => ?_⟩
    rw [World.cell?_setCell_other]
    · exact h3 j hj
    · intro e
      rw [e, h3 j hj] at hp
      exact hy _ _ (Option.some.inj hp).symm

theorem sizeSet (w : World) (p : Addr) (u : Value) : (w.setCell p u).heap.size = w.heap.size := by simp [World.setCell]

theorem setSame {w : World} {p : Addr} {x : Value} (h : w.cell? p = some x) (u : Value) : (w.setCell p u).cell? p = some u := World.cell?_setCell_same' _ _ _ (by rw [h]; rfl)
theorem setOther {w : World} {b b' : Nat} {o o' : Nat} {x : Value} (h : w.cell? ⟨b', o', none⟩ = some x) (hb : b ≠ b') (u : Value) : (w.setCell ⟨b, o, none⟩ u).cell? ⟨b', o', none⟩ = some x := by
  rw [World.cell?_setCell_other]
  · exact h
  · intro e; exact hb (congrArg Addr.block e)

theorem Reads.setBlock {w : World} {v : Value} {xs : List Nat} (h : Reads w v xs) {p o : Nat} (hv : ∀ a n c, v = .slice (some a) n c → a.block ≠ p) (u : Value) : Reads (w.setCell ⟨p, o, none⟩ u) v xs := by
  rcases h with h | ⟨b, off, cap, e, h1, h2, h3⟩
  · exact .inl h
  · refine .inr ⟨b, off, cap, e, by simpa [World.setCell] using h1, h2, fun j hj => ?_⟩
    have := hv _ _ _ e
    exact setOther (h3 j hj) (fun e => this e.symm) u

theorem Below.of_drew {B : Nat} {w w' : World} (h : Below B w.drew w') : Below B w w' := ⟨h.os, h.tape, h.output, h.size, h.block⟩
theorem ltOf {w : World} {b o : Nat} {x : Value} (h : w.cell? ⟨b, o, none⟩ = some x) : b < w.heap.size := by
  rcases Nat.lt_or_ge b w.heap.size with h9 | h9
  · exact h9
  · exfalso; simp only [World.cell?] at h; rw [Array.getElem?_eq_none h9] at h; cases h
theorem Below.get {w w' : World} (hb : Below w.heap.size w w') {b o : Nat} {x : Value} (h : w.cell? ⟨b, o, none⟩ = some x) : w'.cell? ⟨b, o, none⟩ = some x :=
  (hb.cell (p := ⟨b, o, none⟩) (ltOf h)).trans h
theorem Below.unf {w w' : World} (hb : Below w.heap.size w w') {b o : Nat} {x : Value} (h : w.cell? ⟨b, o, none⟩ = some x) (hf : w.frozen? ⟨b, o, none⟩ = false) : w'.frozen? ⟨b, o, none⟩ = false :=
  (hb.frozen (p := ⟨b, o, none⟩) (ltOf h)).trans hf

theorem owns_shape {w : World} {base e size n : Nat} {v : Value} {xs : List Value} (h : w.ownsRow base e size v n xs) : ∃ a c, v = .slice a n c := by
  obtain ⟨_, ⟨rfl, rfl⟩ | ⟨g, cap, cur, rfl, _⟩⟩ := h
  · exact ⟨none, 0, rfl⟩
  · exact ⟨_, _, rfl⟩

theorem owns_below {w w' : World} {base e size n : Nat} {v : Value} {xs : List Value} (h : w.ownsRow base e size v n xs) (hb : Below w.heap.size w w') : w'.ownsRow base e size v n xs := by
  obtain ⟨hl, h⟩ := h
  refine ⟨hl, ?_⟩
  rcases h with h | ⟨g, cap, cur, e1, h1, h2, h3, h4, h5, h6⟩
  · exact .inl h
  · exact .inr ⟨g, cap, cur, e1, h1, (hb.block g (Array.getElem?_eq_some_iff.1 h2).1).trans h2, h3, h4, h5, h6⟩

theorem owns_set {w : World} {base e size n : Nat} {v : Value} {xs : List Value} (h : w.ownsRow base e size v n xs) {p o : Nat} (hp : p < base) (u : Value) : (w.setCell ⟨p, o, none⟩ u).ownsRow base e size v n xs :=
  ownsRow_setCell_below h hp u

end Go.Proofs.YtppbhnhmaocdnaaGreatDoor
