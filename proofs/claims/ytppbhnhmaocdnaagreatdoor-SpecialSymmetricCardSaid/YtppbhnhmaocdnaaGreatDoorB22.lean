/- Walks and lemmas: The sum of a series: its first statement, in whatever order. PRINTED by wip/gs.py. The sum of a series. Series: the next term, and the sum, in whatever order. PRINTED by wip/gr.py. -/
import Derived.Deep.RegionHeld3
import Derived.Test.YtppbhnhmaocdnaaGreatDoorB21
import Derived.IntWalk
set_option linter.unusedVariables false
set_option linter.unusedSimpArgs false
namespace Go.Proofs.YtppbhnhmaocdnaaGreatDoor
theorem qb22a {α : Type _} (l : List α) (i : Nat) (a : α) : l.toArray.setIfInBounds i a = (l.set i a).toArray := List.setIfInBounds_toArray ..
theorem qb22z {α : Type _} {x : α} {xs : List α} {a : α} : (x :: xs).set 0 a = a :: xs := rfl
theorem qb22s {α : Type _} {x : α} {xs : List α} {i : Nat} {a : α} : (x :: xs).set (i + 1) a = x :: xs.set i a := rfl
open Go.RowKit Go.Shelf

noncomputable def findRegion : Code → Nat → Option (Array Oper)
  | .region id ops _, n => if id == n then some ops else none
  | .seq a b, n => match findRegion a n with | some o => some o | none => findRegion b n
  | _, _ => none
noncomputable def sumOps : Array Oper := ((Tryz.f85.body.bind (findRegion · 1)).getD #[])

def e0 : Value := .string ⟨#[]⟩
structure SumS (w : World) (one : ByteArray) (k : Int) (p5 p6 p7 : Bool) (T5 T6 T7 : Nat) (W : World) : Prop where
  b : RC w.heap.size W (.int .i64 k) (.string one)
  r : RC (w.heap.size + 1) W e0 e0
  l : Below w.heap.size w W
  h5 : p5 = true → RC T5 W e0 e0
  h6 : p6 = true → RC T6 W e0 e0
  h7 : p7 = true → W.cell? ⟨T7, 0, none⟩ = some (.bool false) ∧ W.frozen? ⟨T7, 0, none⟩ = false
  g5 : p5 = true → w.heap.size + 1 < T5
  g6 : p6 = true → w.heap.size + 1 < T6
  g7 : p7 = true → w.heap.size + 1 < T7
  d56 : p5 = true → p6 = true → T5 ≠ T6
  d57 : p5 = true → p7 = true → T5 ≠ T7
  d67 : p6 = true → p7 = true → T6 ≠ T7

theorem SumS.grow {w : World} {one : ByteArray} {k : Int} {p5 p6 p7 : Bool} {T5 T6 T7 : Nat} {W W' : World} (h : SumS w one k p5 p6 p7 T5 T6 T7 W) (hb : Below W.heap.size W W') : SumS w one k p5 p6 p7 T5 T6 T7 W' :=
  ⟨h.b.below hb, h.r.below hb, h.l.trans (hb.mono h.l.size), fun e => (h.h5 e).below hb, fun e => (h.h6 e).below hb, fun e => ⟨Below.get hb (h.h7 e).1, Below.unf hb (h.h7 e).1 (h.h7 e).2⟩, h.g5, h.g6, h.g7, h.d56, h.d57, h.d67⟩
theorem SumS.new5 {w : World} {one : ByteArray} {k : Int} {p6 p7 : Bool} {T5 T6 T7 : Nat} {W : World} (h : SumS w one k false p6 p7 T5 T6 T7 W) : SumS w one k true p6 p7 W.heap.size T6 T7 (W.alloc (.cells #[.string ⟨#[]⟩, .string ⟨#[]⟩] 61)) := by
  have hr := ltOf h.r.c00
  have h' := h.grow (belowNew W (.cells #[.string ⟨#[]⟩, .string ⟨#[]⟩] 61))
  exact ⟨h'.b, h'.r, h'.l, fun _ => RC.new W _ _ _, h'.h6, h'.h7, fun _ => hr, h.g6, h.g7, fun _ e => by have := ltOf (h.h6 e).c00; omega, fun _ e => by have := ltOf (h.h7 e).1; omega, h.d67⟩
theorem SumS.new6 {w : World} {one : ByteArray} {k : Int} {p5 p7 : Bool} {T5 T6 T7 : Nat} {W : World} (h : SumS w one k p5 false p7 T5 T6 T7 W) : SumS w one k p5 true p7 T5 W.heap.size T7 (W.alloc (.cells #[.string ⟨#[]⟩, .string ⟨#[]⟩] 61)) := by
  have hr := ltOf h.r.c00
  have h' := h.grow (belowNew W (.cells #[.string ⟨#[]⟩, .string ⟨#[]⟩] 61))
  exact ⟨h'.b, h'.r, h'.l, h'.h5, fun _ => RC.new W _ _ _, h'.h7, h.g5, fun _ => hr, h.g7, fun e _ => by have := ltOf (h.h5 e).c00; omega, h.d57, fun _ e => by have := ltOf (h.h7 e).1; omega⟩
theorem SumS.new7 {w : World} {one : ByteArray} {k : Int} {p5 p6 : Bool} {T5 T6 T7 : Nat} {W : World} (h : SumS w one k p5 p6 false T5 T6 T7 W) : SumS w one k p5 p6 true T5 T6 W.heap.size (W.alloc (.cells #[.bool false] 4)) := by
  have hr := ltOf h.r.c00
  have h' := h.grow (belowNew W (.cells #[.bool false] 4))
  exact ⟨h'.b, h'.r, h'.l, h'.h5, h'.h6, fun _ => ⟨cellAt _ _ _ 0 _ rfl, frozenNew _ _ _ 0 _ rfl⟩, h.g5, h.g6, fun _ => hr, h.d56, fun e _ => by have := ltOf (h.h5 e).c00; omega, fun e _ => by have := ltOf (h.h6 e).c00; omega⟩

structure SumE (w : World) (one z : ByteArray) (k : Int) (T5 T6 T7 : Nat) (W : World) : Prop where
  b : RC w.heap.size W (.int .i64 k) (.string one)
  r : RC (w.heap.size + 1) W e0 e0
  l : Below w.heap.size w W
  h5 : RC T5 W (.string z) (.string z)
  h6 : RC T6 W (.string z) (.string z)
  h7 : W.cell? ⟨T7, 0, none⟩ = some (.bool false)
  f7 : W.frozen? ⟨T7, 0, none⟩ = false
  g5 : w.heap.size + 1 < T5
  g6 : w.heap.size + 1 < T6
  g7 : w.heap.size + 1 < T7
  d56 : T5 ≠ T6
  d57 : T5 ≠ T7
  d67 : T6 ≠ T7

theorem SumS.stored {w : World} {one z : ByteArray} {k : Int} {T5 T6 T7 : Nat} {W : World} (h : SumS w one k true true true T5 T6 T7 W) :
    SumE w one z k T5 T6 T7 (((((W.setCell ⟨T5, 0, none⟩ (.string z)).setCell ⟨T5, 1, none⟩ (.string z)).setCell ⟨T6, 0, none⟩ (.string z)).setCell ⟨T6, 1, none⟩ (.string z)).setCell ⟨T7, 0, none⟩ (.bool false)) := by
  have g5 := h.g5 rfl
  have g6 := h.g6 rfl
  have g7 := h.g7 rfl
  have d56 := h.d56 rfl rfl
  have d57 := h.d57 rfl rfl
  have d67 := h.d67 rfl rfl
  have other : ∀ {R : Nat} {a b : Value}, RC R W a b → R ≠ T5 → R ≠ T6 → R ≠ T7 → RC R (((((W.setCell ⟨T5, 0, none⟩ (.string z)).setCell ⟨T5, 1, none⟩ (.string z)).setCell ⟨T6, 0, none⟩ (.string z)).setCell ⟨T6, 1, none⟩ (.string z)).setCell ⟨T7, 0, none⟩ (.bool false)) a b := by
    intro R a b x h5 h6 h7
    refine ⟨setOther (setOther (setOther (setOther (setOther x.c00 (Ne.symm h5) _) (Ne.symm h5) _) (Ne.symm h6) _) (Ne.symm h6) _) (Ne.symm h7) _, setOther (setOther (setOther (setOther (setOther x.c01 (Ne.symm h5) _) (Ne.symm h5) _) (Ne.symm h6) _) (Ne.symm h6) _) (Ne.symm h7) _, fun j => ?_⟩
    simp only [World.frozen?_setCell]; exact x.f0 j
  have x5 := (h.h5 rfl).put (.string z) (.string z)
  have x6 := h.h6 rfl
  have y6 : RC T6 ((W.setCell ⟨T5, 0, none⟩ (.string z)).setCell ⟨T5, 1, none⟩ (.string z)) e0 e0 := ⟨setOther (setOther x6.c00 d56 _) d56 _, setOther (setOther x6.c01 d56 _) d56 _, fun j => by rw [World.frozen?_setCell, World.frozen?_setCell]; exact x6.f0 j⟩
  have z6 := y6.put (.string z) (.string z)
  have x7 := h.h7 rfl
  exact ⟨other h.b (by omega) (by omega) (by omega), other h.r (by omega) (by omega) (by omega),
    ((((h.l.setCell (p := ⟨T5, 0, none⟩) (by show w.heap.size ≤ T5; omega) _).setCell (p := ⟨T5, 1, none⟩) (by show w.heap.size ≤ T5; omega) _).setCell (p := ⟨T6, 0, none⟩) (by show w.heap.size ≤ T6; omega) _).setCell (p := ⟨T6, 1, none⟩) (by show w.heap.size ≤ T6; omega) _).setCell (p := ⟨T7, 0, none⟩) (by show w.heap.size ≤ T7; omega) _,
    ⟨setOther (setOther (setOther x5.c00 (Ne.symm d56) _) (Ne.symm d56) _) (Ne.symm d57) _, setOther (setOther (setOther x5.c01 (Ne.symm d56) _) (Ne.symm d56) _) (Ne.symm d57) _, fun j => by simp only [World.frozen?_setCell]; exact (h.h5 rfl).f0 j⟩,
    ⟨setOther z6.c00 (Ne.symm d67) _, setOther z6.c01 (Ne.symm d67) _, fun j => by simp only [World.frozen?_setCell]; exact x6.f0 j⟩,
    setSame (setOther (setOther (setOther (setOther x7.1 d57 _) d57 _) d67 _) d67 _) _, by simp only [World.frozen?_setCell]; exact x7.2, g5, g6, g7, d56, d57, d67⟩

def sumFr (v0 v1 : Value) (b : Nat) (t5 t6 t7 t10 t11 t12 t13 : Value) : Act :=
  { tmps := #[v0, v1, .pointer (some ⟨b, 0, none⟩), undef, .pointer (some ⟨b + 1, 0, none⟩), t5, t6, t7, undef, undef, t10, t11, t12, t13, undef, undef, undef, undef, undef, undef, undef, undef, undef, undef, undef, undef, undef, undef, undef, undef, undef, undef, undef], defers := [] }

def SumQ (w : World) (one z : ByteArray) (k : Int) (v0 v1 : Value) (Q : Exit → Act → World → Prop) : Prop :=
  ∀ (T5 T6 T7 : Nat) (W : World), SumE w one z k T5 T6 T7 W →
    Q .normal (sumFr v0 v1 w.heap.size (.pointer (some ⟨T5, 0, none⟩)) (.pointer (some ⟨T6, 0, none⟩)) (.pointer (some ⟨T7, 0, none⟩)) (.agg #[.int .i64 k, .string one]) (.agg #[.string z, .string z]) (.agg #[.int .i64 k, .string one]) (.agg #[.string z, .string z])) W
def SumW (w : World) (one z : ByteArray) (k : Int) : Prop := ∀ W, Below w.heap.size w W → Calls Tryz.prog 41 #[.agg #[.int .i64 k, .string one], .int .i64 0] W fun e w' => e = .returned (.agg #[.string z, .string z]) ∧ Below W.heap.size W w'
def SumC (w : World) (one : ByteArray) (k : Int) (W : World) : Prop := W.cell? ⟨w.heap.size, 0, none⟩ = some (.int .i64 k) ∧ W.cell? ⟨w.heap.size, 1, none⟩ = some (.string one)
theorem SumS.c {w : World} {one : ByteArray} {k : Int} {p5 p6 p7 : Bool} {T5 T6 T7 : Nat} {W : World} (h : SumS w one k p5 p6 p7 T5 T6 T7 W) : SumC w one k W := ⟨h.b.c00, h.b.c01⟩


set_option maxRecDepth 100000 in
set_option maxHeartbeats 2000000 in
theorem sumSt2111 (w : World) (one z : ByteArray) (k : Int) (v0 v1 : Value) (Q : Exit → Act → World → Prop) (hQ : SumQ w one z k v0 v1 Q) (HW : SumW w one z k) (T5 T6 T7 : Nat) (W : World) (h : SumS w one k true true true T5 T6 T7 W) :
    wpAnyH Tryz.prog .any sumOps Q (SumC w one k) 3 #[true, true, true, true, true, true, true, false, false, false] (sumFr v0 v1 w.heap.size (.pointer (some ⟨T5, 0, none⟩)) (.pointer (some ⟨T6, 0, none⟩)) (.pointer (some ⟨T7, 0, none⟩)) (.agg #[.int .i64 k, .string one]) (.agg #[.string z, .string z]) (.agg #[.int .i64 k, .string one]) (.agg #[.string z, .string z])) W := by
  have x5 := h.h5 rfl
  have x6 := h.h6 rfl
  have x7 := h.h7 rfl
  have d56 := h.d56 rfl rfl
  have d57 := h.d57 rfl rfl
  have d67 := h.d67 rfl rfl
  unfold e0 at x5 x6
  have c50 := x5.c00
  have c51 := x5.c01
  have f5 := x5.f0
  have c60 := x6.c00
  have c61 := x6.c01
  have f6 := x6.f0
  have c7 := x7.1
  have f7 := x7.2
  have HQ := Lib.hid (hQ T5 T6 T7 _ (h.stored (z := z)))
  have s1 : ∀ u v, SumC w one k ((W.setCell ⟨T5, 0, none⟩ u).setCell ⟨T5, 1, none⟩ v) := fun u v => by
    have g := h.g5 rfl
    exact ⟨setOther (setOther h.b.c00 (by omega) _) (by omega) _, setOther (setOther h.b.c01 (by omega) _) (by omega) _⟩
  have s2 : ∀ u v u' v', SumC w one k ((((W.setCell ⟨T5, 0, none⟩ u).setCell ⟨T5, 1, none⟩ v).setCell ⟨T6, 0, none⟩ u').setCell ⟨T6, 1, none⟩ v') := fun u v u' v' => by
    have g := h.g6 rfl
    have s := s1 u v
    exact ⟨setOther (setOther s.1 (by omega) _) (by omega) _, setOther (setOther s.2 (by omega) _) (by omega) _⟩
  have s3 : ∀ u v u' v' y, SumC w one k (((((W.setCell ⟨T5, 0, none⟩ u).setCell ⟨T5, 1, none⟩ v).setCell ⟨T6, 0, none⟩ u').setCell ⟨T6, 1, none⟩ v').setCell ⟨T7, 0, none⟩ y) := fun u v u' v' y => by
    have g := h.g7 rfl
    have s := s2 u v u' v'
    exact ⟨setOther s.1 (by omega) _, setOther s.2 (by omega) _⟩
  have e60 : ∀ u v, ((W.setCell ⟨T5, 0, none⟩ u).setCell ⟨T5, 1, none⟩ v).cell? ⟨T6, 0, none⟩ = some (.string ⟨#[]⟩) := fun u v => setOther (setOther c60 d56 _) d56 _
  have e61 : ∀ u v, ((W.setCell ⟨T5, 0, none⟩ u).setCell ⟨T5, 1, none⟩ v).cell? ⟨T6, 1, none⟩ = some (.string ⟨#[]⟩) := fun u v => setOther (setOther c61 d56 _) d56 _
  have e70 : ∀ u v u' v', ((((W.setCell ⟨T5, 0, none⟩ u).setCell ⟨T5, 1, none⟩ v).setCell ⟨T6, 0, none⟩ u').setCell ⟨T6, 1, none⟩ v').cell? ⟨T7, 0, none⟩ = some (.bool false) := fun u v u' v' => setOther (setOther (setOther (setOther c7 d57 _) d57 _) d67 _) d67 _
  clear h hQ x5 x6 x7
  unfold sumFr at *
  refine wpAnyH_ready (rs := [7]) (by kernel_rfl) (by simp) ?_
  refine AllReadyH.cons (o := ⟨none, .store 61 (.tmp 5) (.tmp 11), _, _, _, _⟩) rfl (fun K hK => ?_) AllReadyH.nil
  go_simp
  refine hK.out _ _ (s1 _ _) (fun _ => ?_)
  clear hK K
  refine wpAnyH_ready (rs := [8]) (by kernel_rfl) (by simp) ?_
  refine AllReadyH.cons (o := ⟨none, .store 61 (.tmp 6) (.tmp 13), _, _, _, _⟩) rfl (fun K hK => ?_) AllReadyH.nil
  go_simp
  refine hK.out _ _ (s2 _ _ _ _) (fun _ => ?_)
  clear hK K
  refine wpAnyH_ready (rs := [9]) (by kernel_rfl) (by simp) ?_
  refine AllReadyH.cons (o := ⟨none, .store 4 (.tmp 7) (.const (.bool false)), _, _, _, _⟩) rfl (fun K hK => ?_) AllReadyH.nil
  go_simp
  refine hK.out _ _ (s3 _ _ _ _ _) (fun _ => ?_)
  clear hK K
  refine wpAnyH_done (by kernel_rfl) ?_ _
  exact HQ.out

set_option maxRecDepth 100000 in
set_option maxHeartbeats 2000000 in
theorem sumSt2011 (w : World) (one z : ByteArray) (k : Int) (v0 v1 : Value) (Q : Exit → Act → World → Prop) (hQ : SumQ w one z k v0 v1 Q) (HW : SumW w one z k) (T5 T6 T7 : Nat) (W : World) (h : SumS w one k false true true T5 T6 T7 W) :
    wpAnyH Tryz.prog .any sumOps Q (SumC w one k) 4 #[true, true, true, true, false, true, true, false, false, false] (sumFr v0 v1 w.heap.size undef (.pointer (some ⟨T6, 0, none⟩)) (.pointer (some ⟨T7, 0, none⟩)) (.agg #[.int .i64 k, .string one]) (.agg #[.string z, .string z]) (.agg #[.int .i64 k, .string one]) (.agg #[.string z, .string z])) W := by
  refine wpAnyH_ready (rs := [4]) (by kernel_rfl) (by simp) ?_
  refine AllReadyH.cons (o := ⟨some 5, .alloc 61, _, _, _, _⟩) rfl (fun K hK => ?_) ?_
  · have h' := h.new5
    unfold sumFr at *
    go_simp
    refine hK.out _ _ h'.c (fun _ => ?_)
    clear hK K
    (try simp only [sumFr, Act.put, qb22a, qb22z, qb22s])
    exact sumSt2111 w one z k v0 v1 Q hQ HW W.heap.size T6 T7 _ h'
  exact AllReadyH.nil

set_option maxRecDepth 100000 in
set_option maxHeartbeats 2000000 in
theorem sumSt2101 (w : World) (one z : ByteArray) (k : Int) (v0 v1 : Value) (Q : Exit → Act → World → Prop) (hQ : SumQ w one z k v0 v1 Q) (HW : SumW w one z k) (T5 T6 T7 : Nat) (W : World) (h : SumS w one k true false true T5 T6 T7 W) :
    wpAnyH Tryz.prog .any sumOps Q (SumC w one k) 4 #[true, true, true, true, true, false, true, false, false, false] (sumFr v0 v1 w.heap.size (.pointer (some ⟨T5, 0, none⟩)) undef (.pointer (some ⟨T7, 0, none⟩)) (.agg #[.int .i64 k, .string one]) (.agg #[.string z, .string z]) (.agg #[.int .i64 k, .string one]) (.agg #[.string z, .string z])) W := by
  refine wpAnyH_ready (rs := [5]) (by kernel_rfl) (by simp) ?_
  refine AllReadyH.cons (o := ⟨some 6, .alloc 61, _, _, _, _⟩) rfl (fun K hK => ?_) ?_
  · have h' := h.new6
    unfold sumFr at *
    go_simp
    refine hK.out _ _ h'.c (fun _ => ?_)
    clear hK K
    (try simp only [sumFr, Act.put, qb22a, qb22z, qb22s])
    exact sumSt2111 w one z k v0 v1 Q hQ HW T5 W.heap.size T7 _ h'
  exact AllReadyH.nil

set_option maxRecDepth 100000 in
set_option maxHeartbeats 2000000 in
theorem sumSt2110 (w : World) (one z : ByteArray) (k : Int) (v0 v1 : Value) (Q : Exit → Act → World → Prop) (hQ : SumQ w one z k v0 v1 Q) (HW : SumW w one z k) (T5 T6 T7 : Nat) (W : World) (h : SumS w one k true true false T5 T6 T7 W) :
    wpAnyH Tryz.prog .any sumOps Q (SumC w one k) 4 #[true, true, true, true, true, true, false, false, false, false] (sumFr v0 v1 w.heap.size (.pointer (some ⟨T5, 0, none⟩)) (.pointer (some ⟨T6, 0, none⟩)) undef (.agg #[.int .i64 k, .string one]) (.agg #[.string z, .string z]) (.agg #[.int .i64 k, .string one]) (.agg #[.string z, .string z])) W := by
  refine wpAnyH_ready (rs := [6]) (by kernel_rfl) (by simp) ?_
  refine AllReadyH.cons (o := ⟨some 7, .alloc 4, _, _, _, _⟩) rfl (fun K hK => ?_) ?_
  · have h' := h.new7
    unfold sumFr at *
    go_simp
    refine hK.out _ _ h'.c (fun _ => ?_)
    clear hK K
    (try simp only [sumFr, Act.put, qb22a, qb22z, qb22s])
    exact sumSt2111 w one z k v0 v1 Q hQ HW T5 T6 W.heap.size _ h'
  exact AllReadyH.nil

set_option maxRecDepth 100000 in
set_option maxHeartbeats 2000000 in
theorem sumSt2001 (w : World) (one z : ByteArray) (k : Int) (v0 v1 : Value) (Q : Exit → Act → World → Prop) (hQ : SumQ w one z k v0 v1 Q) (HW : SumW w one z k) (T5 T6 T7 : Nat) (W : World) (h : SumS w one k false false true T5 T6 T7 W) :
    wpAnyH Tryz.prog .any sumOps Q (SumC w one k) 5 #[true, true, true, true, false, false, true, false, false, false] (sumFr v0 v1 w.heap.size undef undef (.pointer (some ⟨T7, 0, none⟩)) (.agg #[.int .i64 k, .string one]) (.agg #[.string z, .string z]) (.agg #[.int .i64 k, .string one]) (.agg #[.string z, .string z])) W := by
  refine wpAnyH_ready (rs := [4, 5]) (by kernel_rfl) (by simp) ?_
  refine AllReadyH.cons (o := ⟨some 5, .alloc 61, _, _, _, _⟩) rfl (fun K hK => ?_) ?_
  · have h' := h.new5
    unfold sumFr at *
    go_simp
    refine hK.out _ _ h'.c (fun _ => ?_)
    clear hK K
    (try simp only [sumFr, Act.put, qb22a, qb22z, qb22s])
    exact sumSt2101 w one z k v0 v1 Q hQ HW W.heap.size T6 T7 _ h'
  refine AllReadyH.cons (o := ⟨some 6, .alloc 61, _, _, _, _⟩) rfl (fun K hK => ?_) ?_
  · have h' := h.new6
    unfold sumFr at *
    go_simp
    refine hK.out _ _ h'.c (fun _ => ?_)
    clear hK K
    (try simp only [sumFr, Act.put, qb22a, qb22z, qb22s])
    exact sumSt2011 w one z k v0 v1 Q hQ HW T5 W.heap.size T7 _ h'
  exact AllReadyH.nil

set_option maxRecDepth 100000 in
set_option maxHeartbeats 2000000 in
theorem sumSt2010 (w : World) (one z : ByteArray) (k : Int) (v0 v1 : Value) (Q : Exit → Act → World → Prop) (hQ : SumQ w one z k v0 v1 Q) (HW : SumW w one z k) (T5 T6 T7 : Nat) (W : World) (h : SumS w one k false true false T5 T6 T7 W) :
    wpAnyH Tryz.prog .any sumOps Q (SumC w one k) 5 #[true, true, true, true, false, true, false, false, false, false] (sumFr v0 v1 w.heap.size undef (.pointer (some ⟨T6, 0, none⟩)) undef (.agg #[.int .i64 k, .string one]) (.agg #[.string z, .string z]) (.agg #[.int .i64 k, .string one]) (.agg #[.string z, .string z])) W := by
  refine wpAnyH_ready (rs := [4, 6]) (by kernel_rfl) (by simp) ?_
  refine AllReadyH.cons (o := ⟨some 5, .alloc 61, _, _, _, _⟩) rfl (fun K hK => ?_) ?_
  · have h' := h.new5
    unfold sumFr at *
    go_simp
    refine hK.out _ _ h'.c (fun _ => ?_)
    clear hK K
    (try simp only [sumFr, Act.put, qb22a, qb22z, qb22s])
    exact sumSt2110 w one z k v0 v1 Q hQ HW W.heap.size T6 T7 _ h'
  refine AllReadyH.cons (o := ⟨some 7, .alloc 4, _, _, _, _⟩) rfl (fun K hK => ?_) ?_
  · have h' := h.new7
    unfold sumFr at *
    go_simp
    refine hK.out _ _ h'.c (fun _ => ?_)
    clear hK K
    (try simp only [sumFr, Act.put, qb22a, qb22z, qb22s])
    exact sumSt2011 w one z k v0 v1 Q hQ HW T5 T6 W.heap.size _ h'
  exact AllReadyH.nil

set_option maxRecDepth 100000 in
set_option maxHeartbeats 2000000 in
theorem sumSt2100 (w : World) (one z : ByteArray) (k : Int) (v0 v1 : Value) (Q : Exit → Act → World → Prop) (hQ : SumQ w one z k v0 v1 Q) (HW : SumW w one z k) (T5 T6 T7 : Nat) (W : World) (h : SumS w one k true false false T5 T6 T7 W) :
    wpAnyH Tryz.prog .any sumOps Q (SumC w one k) 5 #[true, true, true, true, true, false, false, false, false, false] (sumFr v0 v1 w.heap.size (.pointer (some ⟨T5, 0, none⟩)) undef undef (.agg #[.int .i64 k, .string one]) (.agg #[.string z, .string z]) (.agg #[.int .i64 k, .string one]) (.agg #[.string z, .string z])) W := by
  refine wpAnyH_ready (rs := [5, 6]) (by kernel_rfl) (by simp) ?_
  refine AllReadyH.cons (o := ⟨some 6, .alloc 61, _, _, _, _⟩) rfl (fun K hK => ?_) ?_
  · have h' := h.new6
    unfold sumFr at *
    go_simp
    refine hK.out _ _ h'.c (fun _ => ?_)
    clear hK K
    (try simp only [sumFr, Act.put, qb22a, qb22z, qb22s])
    exact sumSt2110 w one z k v0 v1 Q hQ HW T5 W.heap.size T7 _ h'
  refine AllReadyH.cons (o := ⟨some 7, .alloc 4, _, _, _, _⟩) rfl (fun K hK => ?_) ?_
  · have h' := h.new7
    unfold sumFr at *
    go_simp
    refine hK.out _ _ h'.c (fun _ => ?_)
    clear hK K
    (try simp only [sumFr, Act.put, qb22a, qb22z, qb22s])
    exact sumSt2101 w one z k v0 v1 Q hQ HW T5 T6 W.heap.size _ h'
  exact AllReadyH.nil

set_option maxRecDepth 100000 in
set_option maxHeartbeats 2000000 in
theorem sumSt2000 (w : World) (one z : ByteArray) (k : Int) (v0 v1 : Value) (Q : Exit → Act → World → Prop) (hQ : SumQ w one z k v0 v1 Q) (HW : SumW w one z k) (T5 T6 T7 : Nat) (W : World) (h : SumS w one k false false false T5 T6 T7 W) :
    wpAnyH Tryz.prog .any sumOps Q (SumC w one k) 6 #[true, true, true, true, false, false, false, false, false, false] (sumFr v0 v1 w.heap.size undef undef undef (.agg #[.int .i64 k, .string one]) (.agg #[.string z, .string z]) (.agg #[.int .i64 k, .string one]) (.agg #[.string z, .string z])) W := by
  refine wpAnyH_ready (rs := [4, 5, 6]) (by kernel_rfl) (by simp) ?_
  refine AllReadyH.cons (o := ⟨some 5, .alloc 61, _, _, _, _⟩) rfl (fun K hK => ?_) ?_
  · have h' := h.new5
    unfold sumFr at *
    go_simp
    refine hK.out _ _ h'.c (fun _ => ?_)
    clear hK K
    (try simp only [sumFr, Act.put, qb22a, qb22z, qb22s])
    exact sumSt2100 w one z k v0 v1 Q hQ HW W.heap.size T6 T7 _ h'
  refine AllReadyH.cons (o := ⟨some 6, .alloc 61, _, _, _, _⟩) rfl (fun K hK => ?_) ?_
  · have h' := h.new6
    unfold sumFr at *
    go_simp
    refine hK.out _ _ h'.c (fun _ => ?_)
    clear hK K
    (try simp only [sumFr, Act.put, qb22a, qb22z, qb22s])
    exact sumSt2010 w one z k v0 v1 Q hQ HW T5 W.heap.size T7 _ h'
  refine AllReadyH.cons (o := ⟨some 7, .alloc 4, _, _, _, _⟩) rfl (fun K hK => ?_) ?_
  · have h' := h.new7
    unfold sumFr at *
    go_simp
    refine hK.out _ _ h'.c (fun _ => ?_)
    clear hK K
    (try simp only [sumFr, Act.put, qb22a, qb22z, qb22s])
    exact sumSt2001 w one z k v0 v1 Q hQ HW T5 T6 W.heap.size _ h'
  exact AllReadyH.nil

set_option maxRecDepth 100000 in
set_option maxHeartbeats 2000000 in
theorem sumSt1111 (w : World) (one z : ByteArray) (k : Int) (v0 v1 : Value) (Q : Exit → Act → World → Prop) (hQ : SumQ w one z k v0 v1 Q) (HW : SumW w one z k) (T5 T6 T7 : Nat) (W : World) (h : SumS w one k true true true T5 T6 T7 W) :
    wpAnyH Tryz.prog .any sumOps Q (SumC w one k) 4 #[true, true, true, false, true, true, true, false, false, false] (sumFr v0 v1 w.heap.size (.pointer (some ⟨T5, 0, none⟩)) (.pointer (some ⟨T6, 0, none⟩)) (.pointer (some ⟨T7, 0, none⟩)) (.agg #[.int .i64 k, .string one]) (.agg #[.string z, .string z]) (.agg #[.int .i64 k, .string one]) undef) W := by
  refine wpAnyH_ready (rs := [3]) (by kernel_rfl) (by simp) ?_
  refine AllReadyH.cons (o := ⟨some 13, .call ⟨_, _, _⟩, _, _, _, _⟩) rfl (fun K hK => ?_) ?_
  · unfold sumFr at *
    go_simp
    refine (HW W h.l).mono ?_
    rintro e w1 ⟨rfl, hb⟩
    have h' := h.grow hb
    refine hK.out _ _ h'.c (fun _ => ?_)
    clear hK K
    (try simp only [sumFr, Act.put, qb22a, qb22z, qb22s])
    exact sumSt2111 w one z k v0 v1 Q hQ HW T5 T6 T7 w1 h'
  exact AllReadyH.nil

set_option maxRecDepth 100000 in
set_option maxHeartbeats 2000000 in
theorem sumSt1011 (w : World) (one z : ByteArray) (k : Int) (v0 v1 : Value) (Q : Exit → Act → World → Prop) (hQ : SumQ w one z k v0 v1 Q) (HW : SumW w one z k) (T5 T6 T7 : Nat) (W : World) (h : SumS w one k false true true T5 T6 T7 W) :
    wpAnyH Tryz.prog .any sumOps Q (SumC w one k) 5 #[true, true, true, false, false, true, true, false, false, false] (sumFr v0 v1 w.heap.size undef (.pointer (some ⟨T6, 0, none⟩)) (.pointer (some ⟨T7, 0, none⟩)) (.agg #[.int .i64 k, .string one]) (.agg #[.string z, .string z]) (.agg #[.int .i64 k, .string one]) undef) W := by
  refine wpAnyH_ready (rs := [3, 4]) (by kernel_rfl) (by simp) ?_
  refine AllReadyH.cons (o := ⟨some 13, .call ⟨_, _, _⟩, _, _, _, _⟩) rfl (fun K hK => ?_) ?_
  · unfold sumFr at *
    go_simp
    refine (HW W h.l).mono ?_
    rintro e w1 ⟨rfl, hb⟩
    have h' := h.grow hb
    refine hK.out _ _ h'.c (fun _ => ?_)
    clear hK K
    (try simp only [sumFr, Act.put, qb22a, qb22z, qb22s])
    exact sumSt2011 w one z k v0 v1 Q hQ HW T5 T6 T7 w1 h'
  refine AllReadyH.cons (o := ⟨some 5, .alloc 61, _, _, _, _⟩) rfl (fun K hK => ?_) ?_
  · have h' := h.new5
    unfold sumFr at *
    go_simp
    refine hK.out _ _ h'.c (fun _ => ?_)
    clear hK K
    (try simp only [sumFr, Act.put, qb22a, qb22z, qb22s])
    exact sumSt1111 w one z k v0 v1 Q hQ HW W.heap.size T6 T7 _ h'
  exact AllReadyH.nil

set_option maxRecDepth 100000 in
set_option maxHeartbeats 2000000 in
theorem sumSt1101 (w : World) (one z : ByteArray) (k : Int) (v0 v1 : Value) (Q : Exit → Act → World → Prop) (hQ : SumQ w one z k v0 v1 Q) (HW : SumW w one z k) (T5 T6 T7 : Nat) (W : World) (h : SumS w one k true false true T5 T6 T7 W) :
    wpAnyH Tryz.prog .any sumOps Q (SumC w one k) 5 #[true, true, true, false, true, false, true, false, false, false] (sumFr v0 v1 w.heap.size (.pointer (some ⟨T5, 0, none⟩)) undef (.pointer (some ⟨T7, 0, none⟩)) (.agg #[.int .i64 k, .string one]) (.agg #[.string z, .string z]) (.agg #[.int .i64 k, .string one]) undef) W := by
  refine wpAnyH_ready (rs := [3, 5]) (by kernel_rfl) (by simp) ?_
  refine AllReadyH.cons (o := ⟨some 13, .call ⟨_, _, _⟩, _, _, _, _⟩) rfl (fun K hK => ?_) ?_
  · unfold sumFr at *
    go_simp
    refine (HW W h.l).mono ?_
    rintro e w1 ⟨rfl, hb⟩
    have h' := h.grow hb
    refine hK.out _ _ h'.c (fun _ => ?_)
    clear hK K
    (try simp only [sumFr, Act.put, qb22a, qb22z, qb22s])
    exact sumSt2101 w one z k v0 v1 Q hQ HW T5 T6 T7 w1 h'
  refine AllReadyH.cons (o := ⟨some 6, .alloc 61, _, _, _, _⟩) rfl (fun K hK => ?_) ?_
  · have h' := h.new6
    unfold sumFr at *
    go_simp
    refine hK.out _ _ h'.c (fun _ => ?_)
    clear hK K
    (try simp only [sumFr, Act.put, qb22a, qb22z, qb22s])
    exact sumSt1111 w one z k v0 v1 Q hQ HW T5 W.heap.size T7 _ h'
  exact AllReadyH.nil

set_option maxRecDepth 100000 in
set_option maxHeartbeats 2000000 in
theorem sumSt1110 (w : World) (one z : ByteArray) (k : Int) (v0 v1 : Value) (Q : Exit → Act → World → Prop) (hQ : SumQ w one z k v0 v1 Q) (HW : SumW w one z k) (T5 T6 T7 : Nat) (W : World) (h : SumS w one k true true false T5 T6 T7 W) :
    wpAnyH Tryz.prog .any sumOps Q (SumC w one k) 5 #[true, true, true, false, true, true, false, false, false, false] (sumFr v0 v1 w.heap.size (.pointer (some ⟨T5, 0, none⟩)) (.pointer (some ⟨T6, 0, none⟩)) undef (.agg #[.int .i64 k, .string one]) (.agg #[.string z, .string z]) (.agg #[.int .i64 k, .string one]) undef) W := by
  refine wpAnyH_ready (rs := [3, 6]) (by kernel_rfl) (by simp) ?_
  refine AllReadyH.cons (o := ⟨some 13, .call ⟨_, _, _⟩, _, _, _, _⟩) rfl (fun K hK => ?_) ?_
  · unfold sumFr at *
    go_simp
    refine (HW W h.l).mono ?_
    rintro e w1 ⟨rfl, hb⟩
    have h' := h.grow hb
    refine hK.out _ _ h'.c (fun _ => ?_)
    clear hK K
    (try simp only [sumFr, Act.put, qb22a, qb22z, qb22s])
    exact sumSt2110 w one z k v0 v1 Q hQ HW T5 T6 T7 w1 h'
  refine AllReadyH.cons (o := ⟨some 7, .alloc 4, _, _, _, _⟩) rfl (fun K hK => ?_) ?_
  · have h' := h.new7
    unfold sumFr at *
    go_simp
    refine hK.out _ _ h'.c (fun _ => ?_)
    clear hK K
    (try simp only [sumFr, Act.put, qb22a, qb22z, qb22s])
    exact sumSt1111 w one z k v0 v1 Q hQ HW T5 T6 W.heap.size _ h'
  exact AllReadyH.nil

set_option maxRecDepth 100000 in
set_option maxHeartbeats 2000000 in
theorem sumSt1001 (w : World) (one z : ByteArray) (k : Int) (v0 v1 : Value) (Q : Exit → Act → World → Prop) (hQ : SumQ w one z k v0 v1 Q) (HW : SumW w one z k) (T5 T6 T7 : Nat) (W : World) (h : SumS w one k false false true T5 T6 T7 W) :
    wpAnyH Tryz.prog .any sumOps Q (SumC w one k) 6 #[true, true, true, false, false, false, true, false, false, false] (sumFr v0 v1 w.heap.size undef undef (.pointer (some ⟨T7, 0, none⟩)) (.agg #[.int .i64 k, .string one]) (.agg #[.string z, .string z]) (.agg #[.int .i64 k, .string one]) undef) W := by
  refine wpAnyH_ready (rs := [3, 4, 5]) (by kernel_rfl) (by simp) ?_
  refine AllReadyH.cons (o := ⟨some 13, .call ⟨_, _, _⟩, _, _, _, _⟩) rfl (fun K hK => ?_) ?_
  · unfold sumFr at *
    go_simp
    refine (HW W h.l).mono ?_
    rintro e w1 ⟨rfl, hb⟩
    have h' := h.grow hb
    refine hK.out _ _ h'.c (fun _ => ?_)
    clear hK K
    (try simp only [sumFr, Act.put, qb22a, qb22z, qb22s])
    exact sumSt2001 w one z k v0 v1 Q hQ HW T5 T6 T7 w1 h'
  refine AllReadyH.cons (o := ⟨some 5, .alloc 61, _, _, _, _⟩) rfl (fun K hK => ?_) ?_
  · have h' := h.new5
    unfold sumFr at *
    go_simp
    refine hK.out _ _ h'.c (fun _ => ?_)
    clear hK K
    (try simp only [sumFr, Act.put, qb22a, qb22z, qb22s])
    exact sumSt1101 w one z k v0 v1 Q hQ HW W.heap.size T6 T7 _ h'
  refine AllReadyH.cons (o := ⟨some 6, .alloc 61, _, _, _, _⟩) rfl (fun K hK => ?_) ?_
  · have h' := h.new6
    unfold sumFr at *
    go_simp
    refine hK.out _ _ h'.c (fun _ => ?_)
    clear hK K
    (try simp only [sumFr, Act.put, qb22a, qb22z, qb22s])
    exact sumSt1011 w one z k v0 v1 Q hQ HW T5 W.heap.size T7 _ h'
  exact AllReadyH.nil

set_option maxRecDepth 100000 in
set_option maxHeartbeats 2000000 in
theorem sumSt1010 (w : World) (one z : ByteArray) (k : Int) (v0 v1 : Value) (Q : Exit → Act → World → Prop) (hQ : SumQ w one z k v0 v1 Q) (HW : SumW w one z k) (T5 T6 T7 : Nat) (W : World) (h : SumS w one k false true false T5 T6 T7 W) :
    wpAnyH Tryz.prog .any sumOps Q (SumC w one k) 6 #[true, true, true, false, false, true, false, false, false, false] (sumFr v0 v1 w.heap.size undef (.pointer (some ⟨T6, 0, none⟩)) undef (.agg #[.int .i64 k, .string one]) (.agg #[.string z, .string z]) (.agg #[.int .i64 k, .string one]) undef) W := by
  refine wpAnyH_ready (rs := [3, 4, 6]) (by kernel_rfl) (by simp) ?_
  refine AllReadyH.cons (o := ⟨some 13, .call ⟨_, _, _⟩, _, _, _, _⟩) rfl (fun K hK => ?_) ?_
  · unfold sumFr at *
    go_simp
    refine (HW W h.l).mono ?_
    rintro e w1 ⟨rfl, hb⟩
    have h' := h.grow hb
    refine hK.out _ _ h'.c (fun _ => ?_)
    clear hK K
    (try simp only [sumFr, Act.put, qb22a, qb22z, qb22s])
    exact sumSt2010 w one z k v0 v1 Q hQ HW T5 T6 T7 w1 h'
  refine AllReadyH.cons (o := ⟨some 5, .alloc 61, _, _, _, _⟩) rfl (fun K hK => ?_) ?_
  · have h' := h.new5
    unfold sumFr at *
    go_simp
    refine hK.out _ _ h'.c (fun _ => ?_)
    clear hK K
    (try simp only [sumFr, Act.put, qb22a, qb22z, qb22s])
    exact sumSt1110 w one z k v0 v1 Q hQ HW W.heap.size T6 T7 _ h'
  refine AllReadyH.cons (o := ⟨some 7, .alloc 4, _, _, _, _⟩) rfl (fun K hK => ?_) ?_
  · have h' := h.new7
    unfold sumFr at *
    go_simp
    refine hK.out _ _ h'.c (fun _ => ?_)
    clear hK K
    (try simp only [sumFr, Act.put, qb22a, qb22z, qb22s])
    exact sumSt1011 w one z k v0 v1 Q hQ HW T5 T6 W.heap.size _ h'
  exact AllReadyH.nil

set_option maxRecDepth 100000 in
set_option maxHeartbeats 2000000 in
theorem sumSt1100 (w : World) (one z : ByteArray) (k : Int) (v0 v1 : Value) (Q : Exit → Act → World → Prop) (hQ : SumQ w one z k v0 v1 Q) (HW : SumW w one z k) (T5 T6 T7 : Nat) (W : World) (h : SumS w one k true false false T5 T6 T7 W) :
    wpAnyH Tryz.prog .any sumOps Q (SumC w one k) 6 #[true, true, true, false, true, false, false, false, false, false] (sumFr v0 v1 w.heap.size (.pointer (some ⟨T5, 0, none⟩)) undef undef (.agg #[.int .i64 k, .string one]) (.agg #[.string z, .string z]) (.agg #[.int .i64 k, .string one]) undef) W := by
  refine wpAnyH_ready (rs := [3, 5, 6]) (by kernel_rfl) (by simp) ?_
  refine AllReadyH.cons (o := ⟨some 13, .call ⟨_, _, _⟩, _, _, _, _⟩) rfl (fun K hK => ?_) ?_
  · unfold sumFr at *
    go_simp
    refine (HW W h.l).mono ?_
    rintro e w1 ⟨rfl, hb⟩
    have h' := h.grow hb
    refine hK.out _ _ h'.c (fun _ => ?_)
    clear hK K
    (try simp only [sumFr, Act.put, qb22a, qb22z, qb22s])
    exact sumSt2100 w one z k v0 v1 Q hQ HW T5 T6 T7 w1 h'
  refine AllReadyH.cons (o := ⟨some 6, .alloc 61, _, _, _, _⟩) rfl (fun K hK => ?_) ?_
  · have h' := h.new6
    unfold sumFr at *
    go_simp
    refine hK.out _ _ h'.c (fun _ => ?_)
    clear hK K
    (try simp only [sumFr, Act.put, qb22a, qb22z, qb22s])
    exact sumSt1110 w one z k v0 v1 Q hQ HW T5 W.heap.size T7 _ h'
  refine AllReadyH.cons (o := ⟨some 7, .alloc 4, _, _, _, _⟩) rfl (fun K hK => ?_) ?_
  · have h' := h.new7
    unfold sumFr at *
    go_simp
    refine hK.out _ _ h'.c (fun _ => ?_)
    clear hK K
    (try simp only [sumFr, Act.put, qb22a, qb22z, qb22s])
    exact sumSt1101 w one z k v0 v1 Q hQ HW T5 T6 W.heap.size _ h'
  exact AllReadyH.nil

set_option maxRecDepth 100000 in
set_option maxHeartbeats 2000000 in
theorem sumSt1000 (w : World) (one z : ByteArray) (k : Int) (v0 v1 : Value) (Q : Exit → Act → World → Prop) (hQ : SumQ w one z k v0 v1 Q) (HW : SumW w one z k) (T5 T6 T7 : Nat) (W : World) (h : SumS w one k false false false T5 T6 T7 W) :
    wpAnyH Tryz.prog .any sumOps Q (SumC w one k) 7 #[true, true, true, false, false, false, false, false, false, false] (sumFr v0 v1 w.heap.size undef undef undef (.agg #[.int .i64 k, .string one]) (.agg #[.string z, .string z]) (.agg #[.int .i64 k, .string one]) undef) W := by
  refine wpAnyH_ready (rs := [3, 4, 5, 6]) (by kernel_rfl) (by simp) ?_
  refine AllReadyH.cons (o := ⟨some 13, .call ⟨_, _, _⟩, _, _, _, _⟩) rfl (fun K hK => ?_) ?_
  · unfold sumFr at *
    go_simp
    refine (HW W h.l).mono ?_
    rintro e w1 ⟨rfl, hb⟩
    have h' := h.grow hb
    refine hK.out _ _ h'.c (fun _ => ?_)
    clear hK K
    (try simp only [sumFr, Act.put, qb22a, qb22z, qb22s])
    exact sumSt2000 w one z k v0 v1 Q hQ HW T5 T6 T7 w1 h'
  refine AllReadyH.cons (o := ⟨some 5, .alloc 61, _, _, _, _⟩) rfl (fun K hK => ?_) ?_
  · have h' := h.new5
    unfold sumFr at *
    go_simp
    refine hK.out _ _ h'.c (fun _ => ?_)
    clear hK K
    (try simp only [sumFr, Act.put, qb22a, qb22z, qb22s])
    exact sumSt1100 w one z k v0 v1 Q hQ HW W.heap.size T6 T7 _ h'
  refine AllReadyH.cons (o := ⟨some 6, .alloc 61, _, _, _, _⟩) rfl (fun K hK => ?_) ?_
  · have h' := h.new6
    unfold sumFr at *
    go_simp
    refine hK.out _ _ h'.c (fun _ => ?_)
    clear hK K
    (try simp only [sumFr, Act.put, qb22a, qb22z, qb22s])
    exact sumSt1010 w one z k v0 v1 Q hQ HW T5 W.heap.size T7 _ h'
  refine AllReadyH.cons (o := ⟨some 7, .alloc 4, _, _, _, _⟩) rfl (fun K hK => ?_) ?_
  · have h' := h.new7
    unfold sumFr at *
    go_simp
    refine hK.out _ _ h'.c (fun _ => ?_)
    clear hK K
    (try simp only [sumFr, Act.put, qb22a, qb22z, qb22s])
    exact sumSt1001 w one z k v0 v1 Q hQ HW T5 T6 W.heap.size _ h'
  exact AllReadyH.nil

set_option maxRecDepth 100000 in
set_option maxHeartbeats 2000000 in
theorem sumSt0111 (w : World) (one z : ByteArray) (k : Int) (v0 v1 : Value) (Q : Exit → Act → World → Prop) (hQ : SumQ w one z k v0 v1 Q) (HW : SumW w one z k) (T5 T6 T7 : Nat) (W : World) (h : SumS w one k true true true T5 T6 T7 W) :
    wpAnyH Tryz.prog .any sumOps Q (SumC w one k) 5 #[true, false, true, false, true, true, true, false, false, false] (sumFr v0 v1 w.heap.size (.pointer (some ⟨T5, 0, none⟩)) (.pointer (some ⟨T6, 0, none⟩)) (.pointer (some ⟨T7, 0, none⟩)) (.agg #[.int .i64 k, .string one]) undef (.agg #[.int .i64 k, .string one]) undef) W := by
  refine wpAnyH_ready (rs := [1]) (by kernel_rfl) (by simp) ?_
  refine AllReadyH.cons (o := ⟨some 11, .call ⟨_, _, _⟩, _, _, _, _⟩) rfl (fun K hK => ?_) ?_
  · unfold sumFr at *
    go_simp
    refine (HW W h.l).mono ?_
    rintro e w1 ⟨rfl, hb⟩
    have h' := h.grow hb
    refine hK.out _ _ h'.c (fun _ => ?_)
    clear hK K
    (try simp only [sumFr, Act.put, qb22a, qb22z, qb22s])
    exact sumSt1111 w one z k v0 v1 Q hQ HW T5 T6 T7 w1 h'
  exact AllReadyH.nil

set_option maxRecDepth 100000 in
set_option maxHeartbeats 2000000 in
theorem sumSt0011 (w : World) (one z : ByteArray) (k : Int) (v0 v1 : Value) (Q : Exit → Act → World → Prop) (hQ : SumQ w one z k v0 v1 Q) (HW : SumW w one z k) (T5 T6 T7 : Nat) (W : World) (h : SumS w one k false true true T5 T6 T7 W) :
    wpAnyH Tryz.prog .any sumOps Q (SumC w one k) 6 #[true, false, true, false, false, true, true, false, false, false] (sumFr v0 v1 w.heap.size undef (.pointer (some ⟨T6, 0, none⟩)) (.pointer (some ⟨T7, 0, none⟩)) (.agg #[.int .i64 k, .string one]) undef (.agg #[.int .i64 k, .string one]) undef) W := by
  refine wpAnyH_ready (rs := [1, 4]) (by kernel_rfl) (by simp) ?_
  refine AllReadyH.cons (o := ⟨some 11, .call ⟨_, _, _⟩, _, _, _, _⟩) rfl (fun K hK => ?_) ?_
  · unfold sumFr at *
    go_simp
    refine (HW W h.l).mono ?_
    rintro e w1 ⟨rfl, hb⟩
    have h' := h.grow hb
    refine hK.out _ _ h'.c (fun _ => ?_)
    clear hK K
    (try simp only [sumFr, Act.put, qb22a, qb22z, qb22s])
    exact sumSt1011 w one z k v0 v1 Q hQ HW T5 T6 T7 w1 h'
  refine AllReadyH.cons (o := ⟨some 5, .alloc 61, _, _, _, _⟩) rfl (fun K hK => ?_) ?_
  · have h' := h.new5
    unfold sumFr at *
    go_simp
    refine hK.out _ _ h'.c (fun _ => ?_)
    clear hK K
    (try simp only [sumFr, Act.put, qb22a, qb22z, qb22s])
    exact sumSt0111 w one z k v0 v1 Q hQ HW W.heap.size T6 T7 _ h'
  exact AllReadyH.nil

set_option maxRecDepth 100000 in
set_option maxHeartbeats 2000000 in
theorem sumSt0101 (w : World) (one z : ByteArray) (k : Int) (v0 v1 : Value) (Q : Exit → Act → World → Prop) (hQ : SumQ w one z k v0 v1 Q) (HW : SumW w one z k) (T5 T6 T7 : Nat) (W : World) (h : SumS w one k true false true T5 T6 T7 W) :
    wpAnyH Tryz.prog .any sumOps Q (SumC w one k) 6 #[true, false, true, false, true, false, true, false, false, false] (sumFr v0 v1 w.heap.size (.pointer (some ⟨T5, 0, none⟩)) undef (.pointer (some ⟨T7, 0, none⟩)) (.agg #[.int .i64 k, .string one]) undef (.agg #[.int .i64 k, .string one]) undef) W := by
  refine wpAnyH_ready (rs := [1, 5]) (by kernel_rfl) (by simp) ?_
  refine AllReadyH.cons (o := ⟨some 11, .call ⟨_, _, _⟩, _, _, _, _⟩) rfl (fun K hK => ?_) ?_
  · unfold sumFr at *
    go_simp
    refine (HW W h.l).mono ?_
    rintro e w1 ⟨rfl, hb⟩
    have h' := h.grow hb
    refine hK.out _ _ h'.c (fun _ => ?_)
    clear hK K
    (try simp only [sumFr, Act.put, qb22a, qb22z, qb22s])
    exact sumSt1101 w one z k v0 v1 Q hQ HW T5 T6 T7 w1 h'
  refine AllReadyH.cons (o := ⟨some 6, .alloc 61, _, _, _, _⟩) rfl (fun K hK => ?_) ?_
  · have h' := h.new6
    unfold sumFr at *
    go_simp
    refine hK.out _ _ h'.c (fun _ => ?_)
    clear hK K
    (try simp only [sumFr, Act.put, qb22a, qb22z, qb22s])
    exact sumSt0111 w one z k v0 v1 Q hQ HW T5 W.heap.size T7 _ h'
  exact AllReadyH.nil

set_option maxRecDepth 100000 in
set_option maxHeartbeats 2000000 in
theorem sumSt0110 (w : World) (one z : ByteArray) (k : Int) (v0 v1 : Value) (Q : Exit → Act → World → Prop) (hQ : SumQ w one z k v0 v1 Q) (HW : SumW w one z k) (T5 T6 T7 : Nat) (W : World) (h : SumS w one k true true false T5 T6 T7 W) :
    wpAnyH Tryz.prog .any sumOps Q (SumC w one k) 6 #[true, false, true, false, true, true, false, false, false, false] (sumFr v0 v1 w.heap.size (.pointer (some ⟨T5, 0, none⟩)) (.pointer (some ⟨T6, 0, none⟩)) undef (.agg #[.int .i64 k, .string one]) undef (.agg #[.int .i64 k, .string one]) undef) W := by
  refine wpAnyH_ready (rs := [1, 6]) (by kernel_rfl) (by simp) ?_
  refine AllReadyH.cons (o := ⟨some 11, .call ⟨_, _, _⟩, _, _, _, _⟩) rfl (fun K hK => ?_) ?_
  · unfold sumFr at *
    go_simp
    refine (HW W h.l).mono ?_
    rintro e w1 ⟨rfl, hb⟩
    have h' := h.grow hb
    refine hK.out _ _ h'.c (fun _ => ?_)
    clear hK K
    (try simp only [sumFr, Act.put, qb22a, qb22z, qb22s])
    exact sumSt1110 w one z k v0 v1 Q hQ HW T5 T6 T7 w1 h'
  refine AllReadyH.cons (o := ⟨some 7, .alloc 4, _, _, _, _⟩) rfl (fun K hK => ?_) ?_
  · have h' := h.new7
    unfold sumFr at *
    go_simp
    refine hK.out _ _ h'.c (fun _ => ?_)
    clear hK K
    (try simp only [sumFr, Act.put, qb22a, qb22z, qb22s])
    exact sumSt0111 w one z k v0 v1 Q hQ HW T5 T6 W.heap.size _ h'
  exact AllReadyH.nil

set_option maxRecDepth 100000 in
set_option maxHeartbeats 2000000 in
theorem sumSt0001 (w : World) (one z : ByteArray) (k : Int) (v0 v1 : Value) (Q : Exit → Act → World → Prop) (hQ : SumQ w one z k v0 v1 Q) (HW : SumW w one z k) (T5 T6 T7 : Nat) (W : World) (h : SumS w one k false false true T5 T6 T7 W) :
    wpAnyH Tryz.prog .any sumOps Q (SumC w one k) 7 #[true, false, true, false, false, false, true, false, false, false] (sumFr v0 v1 w.heap.size undef undef (.pointer (some ⟨T7, 0, none⟩)) (.agg #[.int .i64 k, .string one]) undef (.agg #[.int .i64 k, .string one]) undef) W := by
  refine wpAnyH_ready (rs := [1, 4, 5]) (by kernel_rfl) (by simp) ?_
  refine AllReadyH.cons (o := ⟨some 11, .call ⟨_, _, _⟩, _, _, _, _⟩) rfl (fun K hK => ?_) ?_
  · unfold sumFr at *
    go_simp
    refine (HW W h.l).mono ?_
    rintro e w1 ⟨rfl, hb⟩
    have h' := h.grow hb
    refine hK.out _ _ h'.c (fun _ => ?_)
    clear hK K
    (try simp only [sumFr, Act.put, qb22a, qb22z, qb22s])
    exact sumSt1001 w one z k v0 v1 Q hQ HW T5 T6 T7 w1 h'
  refine AllReadyH.cons (o := ⟨some 5, .alloc 61, _, _, _, _⟩) rfl (fun K hK => ?_) ?_
  · have h' := h.new5
    unfold sumFr at *
    go_simp
    refine hK.out _ _ h'.c (fun _ => ?_)
    clear hK K
    (try simp only [sumFr, Act.put, qb22a, qb22z, qb22s])
    exact sumSt0101 w one z k v0 v1 Q hQ HW W.heap.size T6 T7 _ h'
  refine AllReadyH.cons (o := ⟨some 6, .alloc 61, _, _, _, _⟩) rfl (fun K hK => ?_) ?_
  · have h' := h.new6
    unfold sumFr at *
    go_simp
    refine hK.out _ _ h'.c (fun _ => ?_)
    clear hK K
    (try simp only [sumFr, Act.put, qb22a, qb22z, qb22s])
    exact sumSt0011 w one z k v0 v1 Q hQ HW T5 W.heap.size T7 _ h'
  exact AllReadyH.nil

set_option maxRecDepth 100000 in
set_option maxHeartbeats 2000000 in
theorem sumSt0010 (w : World) (one z : ByteArray) (k : Int) (v0 v1 : Value) (Q : Exit → Act → World → Prop) (hQ : SumQ w one z k v0 v1 Q) (HW : SumW w one z k) (T5 T6 T7 : Nat) (W : World) (h : SumS w one k false true false T5 T6 T7 W) :
    wpAnyH Tryz.prog .any sumOps Q (SumC w one k) 7 #[true, false, true, false, false, true, false, false, false, false] (sumFr v0 v1 w.heap.size undef (.pointer (some ⟨T6, 0, none⟩)) undef (.agg #[.int .i64 k, .string one]) undef (.agg #[.int .i64 k, .string one]) undef) W := by
  refine wpAnyH_ready (rs := [1, 4, 6]) (by kernel_rfl) (by simp) ?_
  refine AllReadyH.cons (o := ⟨some 11, .call ⟨_, _, _⟩, _, _, _, _⟩) rfl (fun K hK => ?_) ?_
  · unfold sumFr at *
    go_simp
    refine (HW W h.l).mono ?_
    rintro e w1 ⟨rfl, hb⟩
    have h' := h.grow hb
    refine hK.out _ _ h'.c (fun _ => ?_)
    clear hK K
    (try simp only [sumFr, Act.put, qb22a, qb22z, qb22s])
    exact sumSt1010 w one z k v0 v1 Q hQ HW T5 T6 T7 w1 h'
  refine AllReadyH.cons (o := ⟨some 5, .alloc 61, _, _, _, _⟩) rfl (fun K hK => ?_) ?_
  · have h' := h.new5
    unfold sumFr at *
    go_simp
    refine hK.out _ _ h'.c (fun _ => ?_)
    clear hK K
    (try simp only [sumFr, Act.put, qb22a, qb22z, qb22s])
    exact sumSt0110 w one z k v0 v1 Q hQ HW W.heap.size T6 T7 _ h'
  refine AllReadyH.cons (o := ⟨some 7, .alloc 4, _, _, _, _⟩) rfl (fun K hK => ?_) ?_
  · have h' := h.new7
    unfold sumFr at *
    go_simp
    refine hK.out _ _ h'.c (fun _ => ?_)
    clear hK K
    (try simp only [sumFr, Act.put, qb22a, qb22z, qb22s])
    exact sumSt0011 w one z k v0 v1 Q hQ HW T5 T6 W.heap.size _ h'
  exact AllReadyH.nil

set_option maxRecDepth 100000 in
set_option maxHeartbeats 2000000 in
theorem sumSt0100 (w : World) (one z : ByteArray) (k : Int) (v0 v1 : Value) (Q : Exit → Act → World → Prop) (hQ : SumQ w one z k v0 v1 Q) (HW : SumW w one z k) (T5 T6 T7 : Nat) (W : World) (h : SumS w one k true false false T5 T6 T7 W) :
    wpAnyH Tryz.prog .any sumOps Q (SumC w one k) 7 #[true, false, true, false, true, false, false, false, false, false] (sumFr v0 v1 w.heap.size (.pointer (some ⟨T5, 0, none⟩)) undef undef (.agg #[.int .i64 k, .string one]) undef (.agg #[.int .i64 k, .string one]) undef) W := by
  refine wpAnyH_ready (rs := [1, 5, 6]) (by kernel_rfl) (by simp) ?_
  refine AllReadyH.cons (o := ⟨some 11, .call ⟨_, _, _⟩, _, _, _, _⟩) rfl (fun K hK => ?_) ?_
  · unfold sumFr at *
    go_simp
    refine (HW W h.l).mono ?_
    rintro e w1 ⟨rfl, hb⟩
    have h' := h.grow hb
    refine hK.out _ _ h'.c (fun _ => ?_)
    clear hK K
    (try simp only [sumFr, Act.put, qb22a, qb22z, qb22s])
    exact sumSt1100 w one z k v0 v1 Q hQ HW T5 T6 T7 w1 h'
  refine AllReadyH.cons (o := ⟨some 6, .alloc 61, _, _, _, _⟩) rfl (fun K hK => ?_) ?_
  · have h' := h.new6
    unfold sumFr at *
    go_simp
    refine hK.out _ _ h'.c (fun _ => ?_)
    clear hK K
    (try simp only [sumFr, Act.put, qb22a, qb22z, qb22s])
    exact sumSt0110 w one z k v0 v1 Q hQ HW T5 W.heap.size T7 _ h'
  refine AllReadyH.cons (o := ⟨some 7, .alloc 4, _, _, _, _⟩) rfl (fun K hK => ?_) ?_
  · have h' := h.new7
    unfold sumFr at *
    go_simp
    refine hK.out _ _ h'.c (fun _ => ?_)
    clear hK K
    (try simp only [sumFr, Act.put, qb22a, qb22z, qb22s])
    exact sumSt0101 w one z k v0 v1 Q hQ HW T5 T6 W.heap.size _ h'
  exact AllReadyH.nil

set_option maxRecDepth 100000 in
set_option maxHeartbeats 2000000 in
theorem sumSt0000 (w : World) (one z : ByteArray) (k : Int) (v0 v1 : Value) (Q : Exit → Act → World → Prop) (hQ : SumQ w one z k v0 v1 Q) (HW : SumW w one z k) (T5 T6 T7 : Nat) (W : World) (h : SumS w one k false false false T5 T6 T7 W) :
    wpAnyH Tryz.prog .any sumOps Q (SumC w one k) 8 #[true, false, true, false, false, false, false, false, false, false] (sumFr v0 v1 w.heap.size undef undef undef (.agg #[.int .i64 k, .string one]) undef (.agg #[.int .i64 k, .string one]) undef) W := by
  refine wpAnyH_ready (rs := [1, 4, 5, 6]) (by kernel_rfl) (by simp) ?_
  refine AllReadyH.cons (o := ⟨some 11, .call ⟨_, _, _⟩, _, _, _, _⟩) rfl (fun K hK => ?_) ?_
  · unfold sumFr at *
    go_simp
    refine (HW W h.l).mono ?_
    rintro e w1 ⟨rfl, hb⟩
    have h' := h.grow hb
    refine hK.out _ _ h'.c (fun _ => ?_)
    clear hK K
    (try simp only [sumFr, Act.put, qb22a, qb22z, qb22s])
    exact sumSt1000 w one z k v0 v1 Q hQ HW T5 T6 T7 w1 h'
  refine AllReadyH.cons (o := ⟨some 5, .alloc 61, _, _, _, _⟩) rfl (fun K hK => ?_) ?_
  · have h' := h.new5
    unfold sumFr at *
    go_simp
    refine hK.out _ _ h'.c (fun _ => ?_)
    clear hK K
    (try simp only [sumFr, Act.put, qb22a, qb22z, qb22s])
    exact sumSt0100 w one z k v0 v1 Q hQ HW W.heap.size T6 T7 _ h'
  refine AllReadyH.cons (o := ⟨some 6, .alloc 61, _, _, _, _⟩) rfl (fun K hK => ?_) ?_
  · have h' := h.new6
    unfold sumFr at *
    go_simp
    refine hK.out _ _ h'.c (fun _ => ?_)
    clear hK K
    (try simp only [sumFr, Act.put, qb22a, qb22z, qb22s])
    exact sumSt0010 w one z k v0 v1 Q hQ HW T5 W.heap.size T7 _ h'
  refine AllReadyH.cons (o := ⟨some 7, .alloc 4, _, _, _, _⟩) rfl (fun K hK => ?_) ?_
  · have h' := h.new7
    unfold sumFr at *
    go_simp
    refine hK.out _ _ h'.c (fun _ => ?_)
    clear hK K
    (try simp only [sumFr, Act.put, qb22a, qb22z, qb22s])
    exact sumSt0001 w one z k v0 v1 Q hQ HW T5 T6 W.heap.size _ h'
  exact AllReadyH.nil


set_option maxRecDepth 100000 in
set_option maxHeartbeats 2000000 in
theorem sumR1_in (w : World) (one z : ByteArray) (k : Int) (v0 v1 : Value) (Q : Exit → Act → World → Prop) (hQ : SumQ w one z k v0 v1 Q) (HW : SumW w one z k) (hP : ∀ (c : List PanicEntry) (a : Act) (d : Option Tmp) (v : Value) (W : World), Q (.panic c) (a.put d v) W → Q (.panic c) a W) (W : World) (h : SumS w one k false false false 0 0 0 W) :
    (Code.region 1 sumOps true).wp Tryz.prog Q (sumFr v0 v1 w.heap.size undef undef undef undef undef undef undef) W := by
  have h' : SumS w one k false false false 0 0 0 W.drew := h.grow (Below.refl _ _).drew
  refine wp_region_held_drew (S := SumC w one k) (by kernel_rfl) h'.c (fun hHeld => ?_)
  have key : wpAnyH Tryz.prog .any sumOps Q (SumC w one k) 8 #[true, false, true, false, false, false, false, false, false, false] (sumFr v0 v1 w.heap.size undef undef undef (.agg #[.int .i64 k, .string one]) undef (.agg #[.int .i64 k, .string one]) undef) W.drew := sumSt0000 w one z k v0 v1 Q hQ HW 0 0 0 _ h'
  unfold sumFr at *
  refine wpAnyH_take (i := 0) (oi := ⟨some 10, _, _, _, _, _⟩) (v := .agg #[.int .i64 k, .string one]) rfl (by kernel_rfl) (by kernel_rfl) (by kernel_rfl) (fun _ _ _ h => hP _ _ _ _ _ h) (Or.inl ⟨by rfl, ?hy0⟩) (by assumption) ?rest0
  case hy0 => (intro w hSw; unfold SumC at hSw; go_simp)
  refine wpAnyH_take (i := 2) (oi := ⟨some 12, _, _, _, _, _⟩) (v := .agg #[.int .i64 k, .string one]) rfl (by kernel_rfl) (by kernel_rfl) (by kernel_rfl) (fun _ _ _ h => hP _ _ _ _ _ h) (Or.inl ⟨by rfl, ?hy2⟩) (by assumption) ?rest2
  case hy2 => (intro w hSw; unfold SumC at hSw; go_simp)
  exact key

end Go.Proofs.YtppbhnhmaocdnaaGreatDoor
namespace Go.Proofs.YtppbhnhmaocdnaaGreatDoor
open Go.RowKit Go.Shelf

attribute [local go_sem] Oper.semAt_some

def totP (t : Nat → Int × Int) : Nat → Int × Int
  | 0 => (0, 0)
  | k + 1 => ((totP t k).1 + (t k).1, (totP t k).2 + (t k).2)
def lstP (t : Nat → Int × Int) : Nat → Int × Int
  | 0 => (0, 0)
  | k + 1 => t k
def stopAt (t : Nat → Int × Int) (k : Nat) : Bool := stopB (decide (0 < k)) (t k) (lstP t k)
def sumP (t : Nat → Int × Int) (M : Nat) : Int × Int := ((totP t (M + 1)).1, (totP t (M + 1)).2 + ((t M).2 + 4))

structure SumB (t : Nat → Int × Int) (M : Nat) : Prop where
  stop : stopAt t M = true
  go : ∀ i, i < M → stopAt t i = false
  hM : M ≤ 100000
  t1 : ∀ i, i ≤ M → (t i).1.natAbs < big
  t2 : ∀ i, i ≤ M → (t i).2.natAbs < big
  t3 : ∀ i, i ≤ M → ((t i).2 * 2).natAbs < big
  s1 : ∀ i, i ≤ M + 1 → (totP t i).1.natAbs < big
  s2 : ∀ i, i ≤ M + 1 → (totP t i).2.natAbs < big
  l1 : ∀ i, i ≤ M → (lstP t i).2.natAbs < big
  l2 : ∀ i, i ≤ M → ((lstP t i).2 + 2).natAbs < big
  f1 : ((t M).2 + 4).natAbs < big
  f2 : ((totP t (M + 1)).2 + ((t M).2 + 4)).natAbs < big

structure SumG (w : World) (T5 T6 T7 T8 B : Nat) : Prop where
  g5 : w.heap.size + 1 < T5
  g6 : w.heap.size + 1 < T6
  g7 : w.heap.size + 1 < T7
  g8 : w.heap.size + 1 < T8
  u5 : T5 < B
  u6 : T6 < B
  u7 : T7 < B
  u8 : T8 < B
  d56 : T5 ≠ T6
  d57 : T5 ≠ T7
  d67 : T6 ≠ T7
  d58 : T5 ≠ T8
  d68 : T6 ≠ T8
  d78 : T7 ≠ T8

def fnV (T6 T7 : Nat) : Value := .func (.func 127) #[] #[.pointer (some ⟨T7, 0, none⟩), .pointer (some ⟨T6, 0, none⟩)]

structure SumI (w : World) (one : ByteArray) (k : Int) (t : Nat → Int × Int) (M T5 T6 T7 T8 : Nat) (i : Nat) (W : World) : Prop where
  b : RC w.heap.size W (.int .i64 k) (.string one)
  r : RC (w.heap.size + 1) W e0 e0
  l : Below w.heap.size w W
  h5 : RC T5 W (.string (str (totP t i).1)) (.string (str (totP t i).2))
  h6 : RC T6 W (.string (str (lstP t i).1)) (.string (str (lstP t i).2))
  h7 : W.cell? ⟨T7, 0, none⟩ = some (.bool (decide (0 < i)))
  f7 : W.frozen? ⟨T7, 0, none⟩ = false
  h8 : W.cell? ⟨T8, 0, none⟩ = some (fnV T6 T7)
  hi : i ≤ M

theorem SumI.below {w : World} {one : ByteArray} {k : Int} {t : Nat → Int × Int} {M T5 T6 T7 T8 B i : Nat} {A W : World} (h : SumI w one k t M T5 T6 T7 T8 i A) (g : SumG w T5 T6 T7 T8 B) (hb : Below B A W) : SumI w one k t M T5 T6 T7 T8 i W :=
  ⟨h.b.belowB hb (by have := g.g5; have := g.u5; omega), h.r.belowB hb (by have := g.g5; have := g.u5; omega), h.l.trans (hb.mono (by have := g.g5; have := g.u5; omega)), h.h5.belowB hb g.u5, h.h6.belowB hb g.u6,
    (hb.cell (p := ⟨T7, 0, none⟩) g.u7).trans h.h7, (hb.frozen (p := ⟨T7, 0, none⟩) g.u7).trans h.f7, (hb.cell (p := ⟨T8, 0, none⟩) g.u8).trans h.h8, h.hi⟩

structure SumX (w : World) (t : Nat → Int × Int) (M T5 : Nat) (W : World) : Prop where
  r : RC (w.heap.size + 1) W e0 e0
  l : Below w.heap.size w W
  h5 : RC T5 W (.string (str (sumP t M).1)) (.string (str (sumP t M).2))

theorem SumX.below {w : World} {t : Nat → Int × Int} {M T5 B : Nat} {A W : World} (h : SumX w t M T5 A) (h1 : w.heap.size + 1 < T5) (h2 : T5 < B) (hb : Below B A W) : SumX w t M T5 W :=
  ⟨h.r.belowB hb (by omega), h.l.trans (hb.mono (by omega)), h.h5.belowB hb h2⟩

theorem Win.kpW {n₀ lo hi : Nat} {A B : World} (h : Win lo hi A B) (h1 : n₀ ≤ lo) (h2 : n₀ ≤ A.heap.size) : KpW n₀ lo hi A B :=
  ⟨h.below h1 h2, fun k _ hk ho _ => (h.block k (Array.getElem?_eq_some_iff.1 ho).1 hk).trans ho⟩
theorem Win.put2 {lo hi : Nat} {A B : World} (h : Win lo hi A B) {R : Nat} (h1 : lo ≤ R) (h2 : R < hi) (x y : Value) : Win lo hi A ((B.setCell ⟨R, 0, none⟩ x).setCell ⟨R, 1, none⟩ y) :=
  (h.trans (Win.set _ R 0 x h1 h2)).trans (Win.set _ R 1 y h1 h2)
theorem Win.put1 {lo hi : Nat} {A B : World} (h : Win lo hi A B) {R o : Nat} (h1 : lo ≤ R) (h2 : R < hi) (x : Value) : Win lo hi A (B.setCell ⟨R, o, none⟩ x) := h.trans (Win.set _ R o x h1 h2)
theorem RC.other1 {R R' o : Nat} {W : World} {a b : Value} (h : RC R W a b) (hn : R' ≠ R) (x : Value) : RC R (W.setCell ⟨R', o, none⟩ x) a b :=
  ⟨setOther h.c00 hn _, setOther h.c01 hn _, fun j => by rw [World.frozen?_setCell]; exact h.f0 j⟩

def SumPost (t : Nat → Int × Int) (M : Nat) (w : World) (e : Ending) (w' : World) : Prop := e = .returned (NV (sumP t M)) ∧ Below w.heap.size w w'

set_option maxRecDepth 100000 in
set_option maxHeartbeats 8000000 in
theorem sum_wide (k : Nat) (hk : k ≤ 150) (g : Nat) (caps : Array Value) (t : Nat → Int × Int) (M b1 b2 : Nat) (w : World) (ht : TabOf w) (hS : SumB t M)
    (eg : ∀ args w, (callFunc g args).run Tryz.prog w = .ok (.enter g args) w)
    (hb1 : b1 < w.heap.size) (hb2 : b2 < w.heap.size) (c1 : NBox w b1 61 (t 0)) (c2 : w.heap[b2]? = some (.cells #[.func (.func g) #[] caps] 109))
    (hnext : ∀ i, i < M → ∀ A, Below w.heap.size w A → Calls Tryz.prog g (#[NV (t i), .int .i64 ((i : Int) + 1)] ++ caps) A fun e A' => e = .returned (NV (t (i + 1))) ∧ Below A.heap.size A A') :
    CallsIn Fence.wide 5 Tryz.prog 85 #[SV k, .func (.func 128) #[] #[.pointer (some ⟨b1, 0, none⟩), .pointer (some ⟨b2, 0, none⟩)]] w (SumPost t M w) := by
  have hfn : ∀ k, Fence.wide.fn k := fun _ => trivial
  have hmf : ∀ (fn : Fn) (first cap : Array Value) (w : World), (Instr.makeFunc fn first cap).run Tryz.prog w = .ok (.func fn first cap) w := fun _ _ _ _ => rfl
  have HW : SumW w (str ((10 ^ k : Nat) : Int)) (str 0) k := fun W hW => by
    have := swhole_in k 0 W hk (by decide) (by simp; exact big_pos) (ht.below hW)
    rw [show (0 : Int) * ((10 ^ k : Nat) : Int) = 0 from Int.zero_mul _] at this
    exact this
  have HPL : Hid (∀ i, i ≤ M → ∀ W, TabOf W → Calls Tryz.prog 91 #[SV k, NV (totP t i), NV (t i)] W fun e w' => e = .returned (NV (totP t (i + 1))) ∧ Below W.heap.size W w') := Lib.hid (fun i (hi : i ≤ M) W h => splus2_in k (totP t i).1 (totP t i).2 (t i).1 (t i).2 W (hS.s1 i (by omega)) (hS.s2 i (by omega)) (hS.t1 i hi) (hS.t2 i hi) (hS.s1 (i + 1) (by omega)) (hS.s2 (i + 1) (by omega)) h)
  have HLA := Lib.hid (fun i (hi : i ≤ M) pb pl W h1 h2 h => isLast_in (decide (0 < i)) (t i) (lstP t i) pb pl W h1 h2 (hS.t2 i hi) (hS.t3 i hi) (hS.l1 i hi) (hS.l2 i hi) h)
  have HA1 := Lib.hid (fun W h => sadd_in (t M).2 4 W (hS.t2 M (Nat.le_refl _)) four_big hS.f1 h)
  have HA2 := Lib.hid (fun W h => sadd_in (totP t (M + 1)).2 ((t M).2 + 4) W (hS.s2 (M + 1) (Nat.le_refl _)) hS.f1 hS.f2 h)
  unfold SV at HPL ⊢
  generalize str ((10 ^ k : Nat) : Int) = one at *
  obtain ⟨W0, hW0, k0, r0, b0⟩ := boxes2 w 59 61 (.int .i64 (k : Int)) (.string one) (.string ⟨#[]⟩) (.string ⟨#[]⟩)
  have hs0 : SumS w one k false false false 0 0 0 W0 := ⟨k0, r0, b0, fun h => (by cases h), fun h => (by cases h), fun h => (by cases h), fun h => (by cases h), fun h => (by cases h), fun h => (by cases h), fun h => (by cases h), fun h => (by cases h), fun h => (by cases h)⟩
  have HS0 := Lib.hid hs0
  have HN := Lib.hid hnext
  have HWW := Lib.hid HW
  clear HW hs0 hnext k0 r0 b0
  subst hW0
  refine callsIn_of_wp_marks Tryz.func85 rfl trivial ?_ rfl
  simp only [Tryz.ntmps85, List.size_toArray, List.length_cons, List.length_nil, Nat.reduceAdd, Nat.reduceSub, Array.replicate_succ, Array.replicate_zero, List.push_toArray, List.append_toArray, List.nil_append, List.cons_append]
  gi_wp2
  refine wpIn_wide.2 (Code.wp_mono NoPanic.imp (sumR1_in w one (str 0) k (.agg #[.int .i64 k, .string one]) (.func (.func 128) #[] #[.pointer (some ⟨b1, 0, none⟩), .pointer (some ⟨b2, 0, none⟩)]) (NoPanic _) ?hQ HWW.out (fun _ _ _ _ _ h => h) _ HS0.out))
  case hQ =>
    intro T5 T6 T7 W1 hE
    refine NoPanic.normal ?_
    unfold sumFr
    gi_wp2
    have g5 := hE.g5
    have g6 := hE.g6
    have g7 := hE.g7
    have u5 := ltOf hE.h5.c00
    have u6 := ltOf hE.h6.c00
    have u7 := ltOf hE.h7
    have hG : SumG w T5 T6 T7 W1.heap.size (W1.heap.size + 1) := ⟨g5, g6, g7, by omega, by omega, by omega, by omega, by omega, hE.d56, hE.d57, hE.d67, by omega, by omega, by omega⟩
    have bn := belowNew W1 (.cells #[fnV T6 T7] 142)
    have hI0 : SumI w one k t M T5 T6 T7 W1.heap.size 0 (W1.alloc (.cells #[fnV T6 T7] 142)) :=
      ⟨hE.b.below bn, hE.r.below bn, hE.l.trans (bn.mono hE.l.size), hE.h5.below bn, hE.h6.below bn, Below.get bn hE.h7, Below.unf bn hE.h7 hE.f7, cellAt _ _ _ 0 _ rfl, Nat.zero_le _⟩
    have hlB := hI0.l
    have hsz : (W1.alloc (.cells #[fnV T6 T7] 142)).heap.size = W1.heap.size + 1 := sizeNew _ _
    have hwl := hE.l.size
    have HE := Lib.hid hI0
    have hit := terms_endless 4 (by omega) g caps t M w.heap.size (W1.heap.size + 1) b1 b2 w (W1.alloc (.cells #[fnV T6 T7] 142)) (fun i W => SumI w one k t M T5 T6 T7 W1.heap.size i W) eg hlB (Nat.le_refl _) (by rw [hsz]; exact Nat.le_refl _) hb1 hb2 c1 c2 HN.out hS.hM (fun i A h => h.hi)
    refine wpIn_until (id := 0) (by omega) (gf := 128) (lb := #[.pointer (some ⟨b1, 0, none⟩), .pointer (some ⟨b2, 0, none⟩)]) rfl ent_terms (fun i => #[NV (t i)]) (fun i => .cells #[.string (str (t i).1), .string (str (t i).2)] 61)
      (KpW w.heap.size w.heap.size (W1.heap.size + 1)) KpW.trans (KpW.putObj (by rw [sizeNew]; omega)) (fun W o hW => KpW.of (belowNew W o) (by rw [sizeNew] at hW; omega)) (fun _ => rfl)
      (fun i W => SumI w one k t M T5 T6 T7 W1.heap.size i W) (fun i W => SumX w t M T5 W)
      (fun i A B h hb => SumI.below h hG (by rw [sizeNew] at hb; exact hb)) (fun i A B h hb => SumX.below h (B := W1.heap.size + 1) g5 (by omega) (by rw [sizeNew] at hb; exact hb)) hI0 hit
      (fun i D => { tmps := #[.agg #[.int .i64 k, .string one], .func (.func 128) #[] #[.pointer (some ⟨b1, 0, none⟩), .pointer (some ⟨b2, 0, none⟩)], .pointer (some ⟨w.heap.size, 0, none⟩), undef, .pointer (some ⟨w.heap.size + 1, 0, none⟩), .pointer (some ⟨T5, 0, none⟩), .pointer (some ⟨T6, 0, none⟩), .pointer (some ⟨T7, 0, none⟩), .pointer (some ⟨W1.heap.size, 0, none⟩), .pointer (some ⟨D, 0, none⟩), .agg #[.int .i64 k, .string one], .agg #[.string (str 0), .string (str 0)], .agg #[.int .i64 k, .string one], .agg #[.string (str 0), .string (str 0)], fnV T6 T7, .func (.func 128) #[] #[.pointer (some ⟨b1, 0, none⟩), .pointer (some ⟨b2, 0, none⟩)], NV (t i), undef, undef, undef, undef, undef, undef, undef, undef, undef, undef, undef, undef, undef, undef, undef, undef], defers := [] }) ?assign ?body ?stop
    case assign =>
      intro l i W K hK
      unfold NV at *
      gi_wp2
      exact hK
    case body =>
      intro l i D W hI hD hobj
      rw [sizeNew] at hD
      rw [sizeNew]
      have hiM := hI.hi
      have HP := HPL.out i hiM
      have HL := HLA.out i hiM
      have xD := rc_of_heap hobj
      have hwB : w.heap.size ≤ W.heap.size := hI.l.size
      rcases Nat.lt_or_ge i M with hlt | hge
      · have hst : stopB (decide (0 < i)) (t i) (lstP t i) = false := hS.go i hlt
        rw [hst] at HL
        have h5 := hI.h5
        have h6 := hI.h6
        have h7 := hI.h7
        have h8 := hI.h8
        have f7 := hI.f7
        have hb0 := hI.b
        have hr0 := hI.r
        have hl0 := hI.l
        have HF : Hid (∀ V, RC w.heap.size V (.int .i64 k) (.string one) → RC (w.heap.size + 1) V e0 e0 → Below w.heap.size w V → RC T5 V (.string (str (totP t (i + 1)).1)) (.string (str (totP t (i + 1)).2)) → RC T6 V (.string (str (t i).1)) (.string (str (t i).2)) →
            V.cell? ⟨T7, 0, none⟩ = some (.bool true) → V.frozen? ⟨T7, 0, none⟩ = false → V.cell? ⟨W1.heap.size, 0, none⟩ = some (fnV T6 T7) → SumI w one k t M T5 T6 T7 W1.heap.size (i + 1) V) :=
          Lib.hid (fun V a b c d e f g h => ⟨a, b, c, d, e, by rw [f, decide_eq_true (Nat.succ_pos i)], g, h, hlt⟩)
        unfold NV at HP HL ⊢
        unfold fnV e0 at *
        generalize decide (0 < i) = bg at *
        clear hI hst HLA HPL HE hI0 hit HA1 HA2 hobj hS HN HS0 HWW c1 c2 hE
        generalize str (totP t (i + 1)).1 = q1 at *
        generalize str (totP t (i + 1)).2 = q2 at *
        generalize str (totP t i).1 = p1 at *
        generalize str (totP t i).2 = p2 at *
        generalize str (lstP t i).1 = l1 at *
        generalize str (lstP t i).2 = l2 at *
        generalize str (t i).1 = a1 at *
        generalize str (t i).2 = a2 at *
        have HP := Lib.hid HP
        have HL := Lib.hid HL
        have d56 := hG.d56
        have d57 := hG.d57
        have d67 := hG.d67
        have d58 := hG.d58
        have d68 := hG.d68
        have d78 := hG.d78
        have x0 := hb0.c00
        have x1 := hb0.c01
        have x2 := h5.c00
        have x3 := h5.c01
        have x4 := xD.c00
        have x5 := xD.c01
        gi_wp2_with (first
          | (gi_at_call 91; refine (CallsIn.inRound l (callsIn_wide.2 (HP.out _ (ht.below hl0)))).mono ?_; rintro e W3 ⟨rfl, hb3⟩; have k5 := h5.below hb3; have k6 := (h6.below hb3).otherPut d56 (.string q1) (.string q2); have kD := (xD.below hb3).otherPut (R' := T5) (by omega) (.string q1) (.string q2); have k7 := cell_put2 (Below.get hb3 h7) d57 (.string q1) (.string q2); have k8 := cell_put2 (Below.get hb3 h8) d58 (.string q1) (.string q2); have z0 := k5.c00; have z1 := k5.c01; have z2 := k5.f0; have z3 := kD.c00; have z4 := kD.c01; have fV : ((W3.setCell ⟨T5, 0, none⟩ (.string q1)).setCell ⟨T5, 1, none⟩ (.string q2)).frozen? ⟨T7, 0, none⟩ = false := (by rw [World.frozen?_setCell, World.frozen?_setCell]; exact Below.unf hb3 h7 f7); have lV := below_put2 (hl0.trans (hb3.mono hwB)) (.string q1) (.string q2) (R := T5) (by have := hG.g5; omega))
          | (gi_at_call 127; refine (CallsIn.inRound l (callsIn_wide.2 (HL.out T7 T6 _ k7 k6 (ht.below lV)))).mono ?_; rintro e W4 ⟨rfl, hb4⟩; have k56 := (k5.put (.string q1) (.string q2)).below hb4; have k66 := k6.below hb4; have k76 := Below.get hb4 k7; have f76 := Below.unf hb4 k7 fV; have kD6 := kD.below hb4; have y0 := k66.c00; have y1 := k66.c01; have y2 := k66.f0; have y3 := kD6.c00; have y4 := kD6.c01; have y5 := setOther (setOther k76 d67 (.string a1) (o := 0)) d67 (.string a2) (o := 1); have y6 : ((W4.setCell ⟨T6, 0, none⟩ (.string a1)).setCell ⟨T6, 1, none⟩ (.string a2)).frozen? ⟨T7, 0, none⟩ = false := (by rw [World.frozen?_setCell, World.frozen?_setCell]; exact f76)))
        have hs3 := hb3.size
        have hs4 := hb4.size
        rw [sizeSet, sizeSet] at hs4
        have g5 := hG.g5
        have g6 := hG.g6
        have g7 := hG.g7
        have hwin : Win w.heap.size (W1.heap.size + 1) W (((W4.setCell ⟨T6, 0, none⟩ (.string a1)).setCell ⟨T6, 1, none⟩ (.string a2)).setCell ⟨T7, 0, none⟩ (.bool true)) :=
          ((((Win.of hb3).put2 (R := T5) (by omega) (by omega) (.string q1) (.string q2)).trans (Win.of hb4)).put2 (R := T6) (by omega) (by omega) (.string a1) (.string a2)).put1 (R := T7) (by omega) (by omega) (.bool true)
        refine ⟨hwin.keeps (Nat.le_refl _), hwin.kpW (Nat.le_refl _) hwB, ?_⟩
        refine HF.out _ ?_ ?_ (hl0.trans (hwin.below (Nat.le_refl _) hwB)) ((k56.otherPut (Ne.symm d56) _ _).other1 (Ne.symm d57) _) ((k66.put _ _).other1 (Ne.symm d67) _) (setSame y5 _) (by rw [World.frozen?_setCell]; exact y6) ?_
        · exact (((((hb0.below hb3).otherPut (by omega) _ _).below hb4).otherPut (by omega) _ _).other1 (by omega) _)
        · exact (((((hr0.below hb3).otherPut (by omega) _ _).below hb4).otherPut (by omega) _ _).other1 (by omega) _)
        · exact setOther (cell_put2 (Below.get hb4 k8) d68 _ _) d78 _
      · have hst : stopB (decide (0 < i)) (t i) (lstP t i) = true := by
          have := hS.stop
          have e : i = M := by omega
          subst e
          exact this
        rw [hst] at HL
        have h5 := hI.h5
        have h6 := hI.h6
        have h7 := hI.h7
        have h8 := hI.h8
        have f7 := hI.f7
        have hb0 := hI.b
        have hr0 := hI.r
        have hl0 := hI.l
        obtain rfl : i = M := by omega
        have HF : Hid (∀ V, RC (w.heap.size + 1) V e0 e0 → Below w.heap.size w V → RC T5 V (.string (str (totP t (i + 1)).1)) (.string (str ((totP t (i + 1)).2 + ((t i).2 + 4)))) → SumX w t i T5 V) :=
          Lib.hid (fun V a b c => ⟨a, b, c⟩)
        have HB1 := Lib.hid (fun W h => HA1.out W h)
        have HB2 := Lib.hid (fun W h => HA2.out W h)
        unfold StrPost at HB1 HB2
        rw [str_four] at HB1
        unfold NV at HP HL ⊢
        unfold fnV e0 at *
        generalize decide (0 < i) = bg at *
        clear hI hst HLA HPL HE hI0 hit HA1 HA2 hobj hS HN HS0 HWW c1 c2 hE
        generalize str ((totP t (i + 1)).2 + ((t i).2 + 4)) = q4 at *
        generalize str ((t i).2 + 4) = q3 at *
        generalize str (totP t (i + 1)).1 = q1 at *
        generalize str (totP t (i + 1)).2 = q2 at *
        generalize str (totP t i).1 = p1 at *
        generalize str (totP t i).2 = p2 at *
        generalize str (lstP t i).1 = l1 at *
        generalize str (lstP t i).2 = l2 at *
        generalize str (t i).1 = a1 at *
        generalize str (t i).2 = a2 at *
        have HP := Lib.hid HP
        have HL := Lib.hid HL
        have d56 := hG.d56
        have d57 := hG.d57
        have d67 := hG.d67
        have d58 := hG.d58
        have d68 := hG.d68
        have d78 := hG.d78
        have x0 := hb0.c00
        have x1 := hb0.c01
        have x2 := h5.c00
        have x3 := h5.c01
        have x4 := xD.c00
        have x5 := xD.c01
        gi_wp2_with (first
          | (gi_at_call 91; refine (CallsIn.inRound l (callsIn_wide.2 (HP.out _ (ht.below hl0)))).mono ?_; rintro e W3 ⟨rfl, hb3⟩; have k5 := h5.below hb3; have k6 := (h6.below hb3).otherPut d56 (.string q1) (.string q2); have kD := (xD.below hb3).otherPut (R' := T5) (by omega) (.string q1) (.string q2); have k7 := cell_put2 (Below.get hb3 h7) d57 (.string q1) (.string q2); have k8 := cell_put2 (Below.get hb3 h8) d58 (.string q1) (.string q2); have z0 := k5.c00; have z1 := k5.c01; have z2 := k5.f0; have z3 := kD.c00; have z4 := kD.c01; have fV : ((W3.setCell ⟨T5, 0, none⟩ (.string q1)).setCell ⟨T5, 1, none⟩ (.string q2)).frozen? ⟨T7, 0, none⟩ = false := (by rw [World.frozen?_setCell, World.frozen?_setCell]; exact Below.unf hb3 h7 f7); have lV := below_put2 (hl0.trans (hb3.mono hwB)) (.string q1) (.string q2) (R := T5) (by have := hG.g5; omega))
          | (gi_at_call 127; refine (CallsIn.inRound l (callsIn_wide.2 (HL.out T7 T6 _ k7 k6 (ht.below lV)))).mono ?_; rintro e W4 ⟨rfl, hb4⟩; have k56 := (k5.put (.string q1) (.string q2)).below hb4; have k66 := k6.below hb4; have k76 := Below.get hb4 k7; have f76 := Below.unf hb4 k7 fV; have kD6 := kD.below hb4; have y0 := k66.c00; have y1 := k66.c01; have y2 := k66.f0; have y3 := kD6.c00; have y4 := kD6.c01; have y5 := setOther (setOther k76 d67 (.string a1) (o := 0)) d67 (.string a2) (o := 1); have y6 : ((W4.setCell ⟨T6, 0, none⟩ (.string a1)).setCell ⟨T6, 1, none⟩ (.string a2)).frozen? ⟨T7, 0, none⟩ = false := (by rw [World.frozen?_setCell, World.frozen?_setCell]; exact f76)))
        have hs3 := hb3.size
        have hs4 := hb4.size
        rw [sizeSet, sizeSet] at hs4
        have g5 := hG.g5
        have hDB : W1.heap.size + 1 < D := by omega
        have hSx : W4.drew.cell? ⟨D, 1, none⟩ = some (.string a2) := kD6.c01
        have c5 : W4.drew.cell? ⟨T5, 1, none⟩ = some (.string q2) := k56.c01
        have l4 : Below w.heap.size w W4.drew := (lV.trans (hb4.mono (by rw [sizeSet, sizeSet]; omega))).drew
        refine wpIn_region_round (fun W' => W'.cell? ⟨D, 1, none⟩ = some (.string a2)) (by kernel_rfl) (by kernel_rfl) ?hL ?_
        case hL =>
          rintro ⟨a', w', h⟩
          exact h
        refine wpAnyH_take (i := 0) (oi := ⟨some 24, _, _, _, _, _⟩) (v := .pointer (some ⟨T5, 1, none⟩)) rfl (by kernel_rfl) (by kernel_rfl) (by kernel_rfl) (fun _ _ _ h => h) (Or.inl ⟨rfl, fun w' hSw => by go_simp⟩) hSx ?_
        try simp only [Act.put, qb22a, qb22z, qb22s]
        refine wpAnyH_take (i := 2) (oi := ⟨some 26, _, _, _, _, _⟩) (v := .pointer (some ⟨D, 1, none⟩)) rfl (by kernel_rfl) (by kernel_rfl) (by kernel_rfl) (fun _ _ _ h => h) (Or.inl ⟨rfl, fun w' hSw => by go_simp⟩) hSx ?_
        try simp only [Act.put, qb22a, qb22z, qb22s]
        refine wpAnyH_take (i := 3) (oi := ⟨some 27, _, _, _, _, _⟩) (v := .string a2) rfl (by kernel_rfl) (by kernel_rfl) (by kernel_rfl) (fun _ _ _ h => h) (Or.inl ⟨rfl, fun w' hSw => by go_simp⟩) hSx ?_
        try simp only [Act.put, qb22a, qb22z, qb22s]
        refine wpAnyH_ready (rs := [1, 4]) (by kernel_rfl) (by simp) ?_
        refine AllReadyH.cons (o := ⟨some 25, _, _, _, _, _⟩) rfl (fun K hK => ?_) (AllReadyH.cons (o := ⟨some 28, _, _, _, _, _⟩) rfl (fun K hK => ?_) AllReadyH.nil)
        · go_simp
          refine hK.out _ _ hSx (fun _ => ?_)
          clear hK K
          try simp only [Act.put, qb22a, qb22z, qb22s]
          refine wpAnyH_ready (rs := [4]) (by kernel_rfl) (by simp) ?_
          refine AllReadyH.cons (o := ⟨some 28, _, _, _, _, _⟩) rfl (fun K hK => ?_) AllReadyH.nil
          go_simp
          refine (HB1.out W4.drew (ht.below l4)).mono ?_
          rintro e W5 ⟨rfl, hb5⟩
          have l5 := l4.trans (hb5.mono l4.size)
          have hS5 := Below.get hb5 hSx
          have c55 := Below.get hb5 c5
          refine hK.out _ _ hS5 (fun _ => ?_)
          clear hK K
          try simp only [Act.put, qb22a, qb22z, qb22s]
          refine wpAnyH_ready (rs := [5]) (by kernel_rfl) (by simp) ?_
          refine AllReadyH.cons (o := ⟨some 29, _, _, _, _, _⟩) rfl (fun K hK => ?_) AllReadyH.nil
          go_simp
          refine (HB2.out _ (ht.below l5)).mono ?_
          rintro e W6 ⟨rfl, hb6⟩
          have hS6 := Below.get hb6 hS5
          have c6 := Below.get hb6 c55
          refine hK.out _ _ hS6 (fun _ => ?_)
          clear hK K
          try simp only [Act.put, qb22a, qb22z, qb22s]
          refine wpAnyH_take (i := 6) (oi := ⟨some 30, _, _, _, _, _⟩) (v := .pointer (some ⟨T5, 1, none⟩)) rfl (by kernel_rfl) (by kernel_rfl) (by kernel_rfl) (fun _ _ _ h => h) (Or.inl ⟨rfl, fun w' hSw => by go_simp⟩) hS6 ?_
          try simp only [Act.put, qb22a, qb22z, qb22s]
          have hb5' : Below W4.heap.size W4 W5 := Below.of_drew hb5
          have k57 := (k56.below hb5').below hb6
          have f57 := k57.f0
          refine wpAnyH_ready (rs := [7]) (by kernel_rfl) (by simp) ?_
          refine AllReadyH.cons (o := ⟨none, .store _ (.tmp 30) (.tmp 29), _, _, _, _⟩) rfl (fun K hK => ?_) AllReadyH.nil
          go_simp
          refine hK.out _ _ (setOther hS6 (by omega) _) (fun _ => ?_)
          clear hK K
          refine wpAnyH_done (by kernel_rfl) ?_ _
          have hwin : Win w.heap.size (W1.heap.size + 1) W (W6.setCell ⟨T5, 1, none⟩ (.string q4)) :=
            (((((Win.of hb3).put2 (R := T5) (by omega) (by omega) (.string q1) (.string q2)).trans (Win.of hb4)).trans (Win.of hb5')).trans (Win.of hb6)).put1 (R := T5) (by omega) (by omega) (.string q4)
          have hfin : SumX w t i T5 (W6.setCell ⟨T5, 1, none⟩ (.string q4)) := by
            refine HF.out _ ?_ (hl0.trans (hwin.below (Nat.le_refl _) hwB)) ⟨setOff k57.c00 (by decide) _, setSame k57.c01 _, fun j => by rw [World.frozen?_setCell]; exact k57.f0 j⟩
            exact (((((hr0.below hb3).otherPut (by omega) _ _).below hb4).below hb5').below hb6).other1 (by omega) _
          gi_wp2
          exact ⟨rfl, hwin.keeps (Nat.le_refl _), hfin⟩
        · go_simp
          refine (HB1.out W4.drew (ht.below l4)).mono ?_
          rintro e W5 ⟨rfl, hb5⟩
          have l5 := l4.trans (hb5.mono l4.size)
          have hS5 := Below.get hb5 hSx
          have c55 := Below.get hb5 c5
          refine hK.out _ _ hS5 (fun _ => ?_)
          clear hK K
          try simp only [Act.put, qb22a, qb22z, qb22s]
          refine wpAnyH_ready (rs := [1]) (by kernel_rfl) (by simp) ?_
          refine AllReadyH.cons (o := ⟨some 25, _, _, _, _, _⟩) rfl (fun K hK => ?_) AllReadyH.nil
          go_simp
          refine hK.out _ _ hS5 (fun _ => ?_)
          clear hK K
          try simp only [Act.put, qb22a, qb22z, qb22s]
          refine wpAnyH_ready (rs := [5]) (by kernel_rfl) (by simp) ?_
          refine AllReadyH.cons (o := ⟨some 29, _, _, _, _, _⟩) rfl (fun K hK => ?_) AllReadyH.nil
          go_simp
          refine (HB2.out _ (ht.below l5)).mono ?_
          rintro e W6 ⟨rfl, hb6⟩
          have hS6 := Below.get hb6 hS5
          have c6 := Below.get hb6 c55
          refine hK.out _ _ hS6 (fun _ => ?_)
          clear hK K
          try simp only [Act.put, qb22a, qb22z, qb22s]
          refine wpAnyH_take (i := 6) (oi := ⟨some 30, _, _, _, _, _⟩) (v := .pointer (some ⟨T5, 1, none⟩)) rfl (by kernel_rfl) (by kernel_rfl) (by kernel_rfl) (fun _ _ _ h => h) (Or.inl ⟨rfl, fun w' hSw => by go_simp⟩) hS6 ?_
          try simp only [Act.put, qb22a, qb22z, qb22s]
          have hb5' : Below W4.heap.size W4 W5 := Below.of_drew hb5
          have k57 := (k56.below hb5').below hb6
          have f57 := k57.f0
          refine wpAnyH_ready (rs := [7]) (by kernel_rfl) (by simp) ?_
          refine AllReadyH.cons (o := ⟨none, .store _ (.tmp 30) (.tmp 29), _, _, _, _⟩) rfl (fun K hK => ?_) AllReadyH.nil
          go_simp
          refine hK.out _ _ (setOther hS6 (by omega) _) (fun _ => ?_)
          clear hK K
          refine wpAnyH_done (by kernel_rfl) ?_ _
          have hwin : Win w.heap.size (W1.heap.size + 1) W (W6.setCell ⟨T5, 1, none⟩ (.string q4)) :=
            (((((Win.of hb3).put2 (R := T5) (by omega) (by omega) (.string q1) (.string q2)).trans (Win.of hb4)).trans (Win.of hb5')).trans (Win.of hb6)).put1 (R := T5) (by omega) (by omega) (.string q4)
          have hfin : SumX w t i T5 (W6.setCell ⟨T5, 1, none⟩ (.string q4)) := by
            refine HF.out _ ?_ (hl0.trans (hwin.below (Nat.le_refl _) hwB)) ⟨setOff k57.c00 (by decide) _, setSame k57.c01 _, fun j => by rw [World.frozen?_setCell]; exact k57.f0 j⟩
            exact (((((hr0.below hb3).otherPut (by omega) _ _).below hb4).below hb5').below hb6).other1 (by omega) _
          gi_wp2
          exact ⟨rfl, hwin.keeps (Nat.le_refl _), hfin⟩
    case stop =>
      intro D i W hD hX hd
      have x5 := hX.h5.c00
      have x6 := hX.h5.c01
      have xr := hX.r
      unfold e0 at xr
      have y0 := xr.c00
      have y1 := xr.c01
      have y2 := xr.f0
      have HPOST : Hid (SumPost t M w = fun e w' => e = .returned (.agg #[.string (str (sumP t M).1), .string (str (sumP t M).2)]) ∧ Below w.heap.size w w') := Lib.hid rfl
      generalize str (sumP t M).1 = q1 at *
      generalize str (sumP t M).2 = q2 at *
      have hD1 : w.heap.size + 1 < D := by rw [sizeNew] at hD; omega
      have hd2 : ((W.setCell ⟨w.heap.size + 1, 0, none⟩ (.string q1)).setCell ⟨w.heap.size + 1, 1, none⟩ (.string q2)).heap[D]? = some (.deferred (some [])) :=
        (Below.heap_setCell _ _ _ _ (by show D ≠ w.heap.size + 1; omega)).trans ((Below.heap_setCell _ _ _ _ (by show D ≠ w.heap.size + 1; omega)).trans hd)
      have r6 := xr.put (.string q1) (.string q2)
      have hb6 := below_put2 hX.l (.string q1) (.string q2) (R := w.heap.size + 1) (by omega)
      have hb7 := hb6.trans (belowK_b (w := w) (Nat.le_refl _) _ D _ (.deferred none) (by omega) hd2 rfl rfl)
      gi_wp2
      refine ⟨by simp, .inl ⟨_, _, rfl, run_takeDeferred hd2, ?_⟩⟩
      have e0' : (((W.setCell ⟨w.heap.size + 1, 0, none⟩ (.string q1)).setCell ⟨w.heap.size + 1, 1, none⟩ (.string q2)).putObj D (.deferred none)).cell? ⟨w.heap.size + 1, 0, none⟩ = some (.string q1) :=
        (World.cell?_of_block (World.putObj_heap_other (by show w.heap.size + 1 ≠ D; omega))).trans r6.c00
      have e1' : (((W.setCell ⟨w.heap.size + 1, 0, none⟩ (.string q1)).setCell ⟨w.heap.size + 1, 1, none⟩ (.string q2)).putObj D (.deferred none)).cell? ⟨w.heap.size + 1, 1, none⟩ = some (.string q2) :=
        (World.cell?_of_block (World.putObj_heap_other (by show w.heap.size + 1 ≠ D; omega))).trans r6.c01
      have HP : Hid (SumPost t M w = fun e w' => e = .returned (.agg #[.string q1, .string q2]) ∧ Below w.heap.size w w') := HPOST
      rw [HP.out]
      exact ⟨.agg #[.string q1, .string q2], by simp [results, Tryz.f85, go_sem, e0', e1'], rfl, hb7⟩

theorem sum_in (k : Nat) (hk : k ≤ 150) (g : Nat) (caps : Array Value) (t : Nat → Int × Int) (M b1 b2 : Nat) (w : World) (ht : TabOf w) (hS : SumB t M)
    (eg : ∀ args w, (callFunc g args).run Tryz.prog w = .ok (.enter g args) w)
    (hb1 : b1 < w.heap.size) (hb2 : b2 < w.heap.size) (c1 : NBox w b1 61 (t 0)) (c2 : w.heap[b2]? = some (.cells #[.func (.func g) #[] caps] 109))
    (hnext : ∀ i, i < M → ∀ A, Below w.heap.size w A → Calls Tryz.prog g (#[NV (t i), .int .i64 ((i : Int) + 1)] ++ caps) A fun e A' => e = .returned (NV (t (i + 1))) ∧ Below A.heap.size A A') :
    Calls Tryz.prog 85 #[SV k, .func (.func 128) #[] #[.pointer (some ⟨b1, 0, none⟩), .pointer (some ⟨b2, 0, none⟩)]] w (SumPost t M w) :=
  callsIn_wide.1 (sum_wide k hk g caps t M b1 b2 w ht hS eg hb1 hb2 c1 c2 hnext)
end Go.Proofs.YtppbhnhmaocdnaaGreatDoor
namespace Go.Proofs.YtppbhnhmaocdnaaGreatDoor
open Go.RowKit Go.Shelf

def pTimes (k : Nat) (a b : Int × Int) : Int × Int := (a.1 * b.1 / ((10 ^ k : Nat) : Int), cdv (a.2 * b.2) ((10 ^ k : Nat) : Int))
def pBy (a : Int × Int) (n d : Int) : Int × Int := (a.1 * n / d, cdv (a.2 * n) d)
def pOver (k : Nat) (a b : Int × Int) : Int × Int := (a.1 * ((10 ^ k : Nat) : Int) / b.2, cdv (a.2 * ((10 ^ k : Nat) : Int)) b.1)
def pPlus (a b : Int × Int) : Int × Int := (a.1 + b.1, a.2 + b.2)
def pMinus (a b : Int × Int) : Int × Int := (a.1 - b.2, a.2 - b.1)
def pWhole (k : Nat) (n : Int) : Int × Int := (n * ((10 ^ k : Nat) : Int), n * ((10 ^ k : Nat) : Int))
def pOf (k : Nat) (n d : Int) : Int × Int := (n * ((10 ^ k : Nat) : Int) / d, cdv (n * ((10 ^ k : Nat) : Int)) d)

def Fit (a : Int × Int) : Prop := a.1.natAbs < big ∧ a.2.natAbs < big
structure TimesOk (k : Nat) (a b : Int × Int) : Prop where
  hk : k ≤ 150
  fa : Fit a
  fb : Fit b
  h1 : (a.1 * b.1).natAbs < big
  h2 : (a.2 * b.2).natAbs < big
  h3 : (a.2 * b.2 / ((10 ^ k : Nat) : Int) + 1).natAbs < big
structure ByOk (a : Int × Int) (n d : Int) : Prop where
  fa : Fit a
  hn : n.natAbs ≤ 1000000000000000000
  hd : d.natAbs ≤ 1000000000000000000
  d0 : d ≠ 0
  h1 : (a.1 * n).natAbs < big
  h2 : (a.2 * n).natAbs < big
  h3 : (a.2 * n / d + 1).natAbs < big
structure OverOk (k : Nat) (a b : Int × Int) : Prop where
  hk : k ≤ 150
  fa : Fit a
  fb : Fit b
  c0 : b.1 ≠ 0
  d0 : b.2 ≠ 0
  h1 : (a.1 * ((10 ^ k : Nat) : Int)).natAbs < big
  h2 : (a.2 * ((10 ^ k : Nat) : Int)).natAbs < big
  h3 : (a.2 * ((10 ^ k : Nat) : Int) / b.1 + 1).natAbs < big

def NPost (r : Int × Int) (w : World) (e : Ending) (w' : World) : Prop := e = .returned (NV r) ∧ Below w.heap.size w w'
theorem timesP {k : Nat} {a b : Int × Int} {w : World} (h : TimesOk k a b) (ht : TabOf w) : Calls Tryz.prog 88 #[SV k, NV a, NV b] w (NPost (pTimes k a b) w) :=
  stimes_in k a.1 a.2 b.1 b.2 w h.hk h.fa.1 h.fa.2 h.fb.1 h.fb.2 h.h1 h.h2 h.h3 ht
theorem byP {k : Nat} {a : Int × Int} {n d : Int} {w : World} (h : ByOk a n d) (ht : TabOf w) : Calls Tryz.prog 84 #[SV k, NV a, .int .i64 n, .int .i64 d] w (NPost (pBy a n d) w) :=
  sby_in k a.1 a.2 n d w h.fa.1 h.fa.2 h.hn h.hd h.d0 h.h1 h.h2 h.h3 ht
theorem overP {k : Nat} {a b : Int × Int} {w : World} (h : OverOk k a b) (ht : TabOf w) : Calls Tryz.prog 40 #[SV k, NV a, NV b] w (NPost (pOver k a b) w) :=
  sover_in k a.1 a.2 b.1 b.2 w h.hk h.fa.1 h.fa.2 h.fb.1 h.fb.2 h.c0 h.d0 h.h1 h.h2 h.h3 ht
theorem wholeP {k : Nat} {n : Int} {w : World} (hk : k ≤ 150) (hn : n.natAbs ≤ 1000000000000000000) (h : Fit (pWhole k n)) (ht : TabOf w) : Calls Tryz.prog 41 #[SV k, .int .i64 n] w (NPost (pWhole k n) w) :=
  swhole_in k n w hk hn h.1 ht


set_option maxRecDepth 100000 in
set_option maxHeartbeats 8000000 in
theorem exp1_in (k bs bx : Nat) (i : Nat) (x a : Int × Int) (w : World) (hs : RC bs w (.int .i64 (k : Int)) (.string (str ((10 ^ k : Nat) : Int)))) (hx : RC bx w (.string (str x.1)) (.string (str x.2)))
    (h1 : TimesOk k a x) (h2 : ByOk (pTimes k a x) (1) ((i : Int) + 1)) (hi : i ≤ 100000) (ht : TabOf w) :
    Calls Tryz.prog 87 (#[NV a, .int .i64 ((i : Int) + 1)] ++ #[.pointer (some ⟨bs, 0, none⟩), .pointer (some ⟨bx, 0, none⟩)]) w (NPost (pBy (pTimes k a x) (1) ((i : Int) + 1)) w) := by
  have HT := fun W h => timesP (w := W) h1 h
  have HB := fun W h => byP (k := k) (w := W) h2 h
  unfold NPost NV SV at HT HB
  unfold NPost NV
  generalize str (pBy (pTimes k a x) (1) ((i : Int) + 1)).1 = r1 at *
  generalize str (pBy (pTimes k a x) (1) ((i : Int) + 1)).2 = r2 at *
  generalize str (pTimes k a x).1 = m1 at *
  generalize str (pTimes k a x).2 = m2 at *
  generalize str a.1 = a1 at *
  generalize str a.2 = a2 at *
  generalize str x.1 = x1 at *
  generalize str x.2 = x2 at *
  generalize str ((10 ^ k : Nat) : Int) = one at *
  clear h1 h2
  have HT := Lib.hid HT
  have HB := Lib.hid HB
  obtain ⟨W0, hW0, k0, o0, b0⟩ := boxes2 w 61 61 (.string a1) (.string a2) (.string ⟨#[]⟩) (.string ⟨#[]⟩)
  have s0 := hs.belowB b0 (ltOf hs.c00)
  have q0 := hx.belowB b0 (ltOf hx.c00)
  have ls := ltOf hs.c00
  have lx := ltOf hx.c00
  clear hs hx
  subst hW0
  have k0d := k0.drew
  have o0d := o0.drew
  have s0d := s0.drew
  have q0d := q0.drew
  have b0d := b0.drew
  obtain ⟨z, hz⟩ : ∃ z : Int, z = (i : Int) + 1 := ⟨_, rfl⟩
  have hz1 : 1 ≤ z := by omega
  have hz2 : z ≤ 100001 := by omega
  rw [← hz] at HB ⊢
  have n0 : w.heap.size + 1 ≠ w.heap.size := by omega
  have ns : w.heap.size + 1 ≠ bs := by omega
  have nx : w.heap.size + 1 ≠ bx := by omega
  clear hz hi
  go_enter Tryz.func87, Tryz.ntmps87
  go_wp2
  go_region_held3 (fun W => W.cell? ⟨w.heap.size, 0, none⟩ = some (.string a1) ∧ W.cell? ⟨w.heap.size, 1, none⟩ = some (.string a2) ∧ W.cell? ⟨bs, 0, none⟩ = some (.int .i64 (k : Int)) ∧ W.cell? ⟨bs, 1, none⟩ = some (.string one) ∧ W.cell? ⟨bx, 0, none⟩ = some (.string x1) ∧ W.cell? ⟨bx, 1, none⟩ = some (.string x2))
    (first | with_reducible exact ⟨k0d.c00, k0d.c01, s0d.c00, s0d.c01, q0d.c00, q0d.c01⟩ | with_reducible exact ⟨k1.c00, k1.c01, s1.c00, s1.c01, q1.c00, q1.c01⟩ | with_reducible exact ⟨k2.c00, k2.c01, s2.c00, s2.c01, q2.c00, q2.c01⟩ | exact ⟨cell_put2 k2.c00 n0 _ _, cell_put2 k2.c01 n0 _ _, cell_put2 s2.c00 ns _ _, cell_put2 s2.c01 ns _ _, cell_put2 q2.c00 nx _ _, cell_put2 q2.c01 nx _ _⟩) (first
    | (go_at_call 88; refine (HT.out (World.drew _) (ht.below b0d)).mono ?_; rintro e w1 ⟨rfl, hb1⟩; have k1 := k0d.below hb1; have o1 := o0d.below hb1; have s1 := s0d.below hb1; have q1 := q0d.below hb1; have b1 := b0d.trans (hb1.mono b0d.size))
    | (go_at_call 84; refine (HB.out _ (ht.below b1)).mono ?_; rintro e w2 ⟨rfl, hb2⟩; have k2 := k1.below hb2; have o2 := o1.below hb2; have s2 := s1.below hb2; have q2 := q1.below hb2; have b2 := b1.trans (hb2.mono b1.size); have z0 := o2.c00; have z1 := o2.c01; have z2 := o2.f0))
  all_goals go_wp2
  have r5 := o2.put (.string r1) (.string r2)
  refine bodyPost_ret_by (v := .agg #[.string r1, .string r2]) (by simp [results, Tryz.f87, go_sem, r5.c00, r5.c01]) rfl ⟨rfl, below_put2 b2 _ _ (Nat.le_succ _)⟩

theorem ent_exp1_in : ∀ args w, (callFunc 87 args).run Tryz.prog w = .ok (.enter 87 args) w := enters_of Tryz.func87 (by kernel_rfl) rfl


set_option maxRecDepth 100000 in
set_option maxHeartbeats 8000000 in
theorem art1_in (k bs bx : Nat) (i : Nat) (x a : Int × Int) (w : World) (hs : RC bs w (.int .i64 (k : Int)) (.string (str ((10 ^ k : Nat) : Int)))) (hx : RC bx w (.string (str x.1)) (.string (str x.2)))
    (h1 : TimesOk k a x) (h2 : ByOk (pTimes k a x) (2 * ((i : Int) + 1) - 1) (2 * ((i : Int) + 1) + 1)) (hi : i ≤ 100000) (ht : TabOf w) :
    Calls Tryz.prog 132 (#[NV a, .int .i64 ((i : Int) + 1)] ++ #[.pointer (some ⟨bs, 0, none⟩), .pointer (some ⟨bx, 0, none⟩)]) w (NPost (pBy (pTimes k a x) (2 * ((i : Int) + 1) - 1) (2 * ((i : Int) + 1) + 1)) w) := by
  have HT := fun W h => timesP (w := W) h1 h
  have HB := fun W h => byP (k := k) (w := W) h2 h
  unfold NPost NV SV at HT HB
  unfold NPost NV
  generalize str (pBy (pTimes k a x) (2 * ((i : Int) + 1) - 1) (2 * ((i : Int) + 1) + 1)).1 = r1 at *
  generalize str (pBy (pTimes k a x) (2 * ((i : Int) + 1) - 1) (2 * ((i : Int) + 1) + 1)).2 = r2 at *
  generalize str (pTimes k a x).1 = m1 at *
  generalize str (pTimes k a x).2 = m2 at *
  generalize str a.1 = a1 at *
  generalize str a.2 = a2 at *
  generalize str x.1 = x1 at *
  generalize str x.2 = x2 at *
  generalize str ((10 ^ k : Nat) : Int) = one at *
  clear h1 h2
  have HT := Lib.hid HT
  have HB := Lib.hid HB
  obtain ⟨W0, hW0, k0, o0, b0⟩ := boxes2 w 61 61 (.string a1) (.string a2) (.string ⟨#[]⟩) (.string ⟨#[]⟩)
  have s0 := hs.belowB b0 (ltOf hs.c00)
  have q0 := hx.belowB b0 (ltOf hx.c00)
  have ls := ltOf hs.c00
  have lx := ltOf hx.c00
  clear hs hx
  subst hW0
  have k0d := k0.drew
  have o0d := o0.drew
  have s0d := s0.drew
  have q0d := q0.drew
  have b0d := b0.drew
  obtain ⟨z, hz⟩ : ∃ z : Int, z = (i : Int) + 1 := ⟨_, rfl⟩
  have hz1 : 1 ≤ z := by omega
  have hz2 : z ≤ 100001 := by omega
  rw [← hz] at HB ⊢
  have n0 : w.heap.size + 1 ≠ w.heap.size := by omega
  have ns : w.heap.size + 1 ≠ bs := by omega
  have nx : w.heap.size + 1 ≠ bx := by omega
  clear hz hi
  have hw0 : IntKind.i64.wrap (2 * z) = 2 * z := IntWalk.i64_in _ (by omega)
  have hw1 : IntKind.i64.wrap (2 * z - 1) = 2 * z - 1 := IntWalk.i64_in _ (by omega)
  have hw2 : IntKind.i64.wrap (2 * z + 1) = 2 * z + 1 := IntWalk.i64_in _ (by omega)
  go_enter Tryz.func132, Tryz.ntmps132
  go_wp2
  go_region_held3 (fun W => W.cell? ⟨w.heap.size, 0, none⟩ = some (.string a1) ∧ W.cell? ⟨w.heap.size, 1, none⟩ = some (.string a2) ∧ W.cell? ⟨bs, 0, none⟩ = some (.int .i64 (k : Int)) ∧ W.cell? ⟨bs, 1, none⟩ = some (.string one) ∧ W.cell? ⟨bx, 0, none⟩ = some (.string x1) ∧ W.cell? ⟨bx, 1, none⟩ = some (.string x2))
    (first | with_reducible exact ⟨k0d.c00, k0d.c01, s0d.c00, s0d.c01, q0d.c00, q0d.c01⟩ | with_reducible exact ⟨k1.c00, k1.c01, s1.c00, s1.c01, q1.c00, q1.c01⟩ | with_reducible exact ⟨k2.c00, k2.c01, s2.c00, s2.c01, q2.c00, q2.c01⟩ | exact ⟨cell_put2 k2.c00 n0 _ _, cell_put2 k2.c01 n0 _ _, cell_put2 s2.c00 ns _ _, cell_put2 s2.c01 ns _ _, cell_put2 q2.c00 nx _ _, cell_put2 q2.c01 nx _ _⟩) (first
    | (go_at_call 88; refine (HT.out (World.drew _) (ht.below b0d)).mono ?_; rintro e w1 ⟨rfl, hb1⟩; have k1 := k0d.below hb1; have o1 := o0d.below hb1; have s1 := s0d.below hb1; have q1 := q0d.below hb1; have b1 := b0d.trans (hb1.mono b0d.size))
    | (go_at_call 84; refine (HB.out _ (ht.below b1)).mono ?_; rintro e w2 ⟨rfl, hb2⟩; have k2 := k1.below hb2; have o2 := o1.below hb2; have s2 := s1.below hb2; have q2 := q1.below hb2; have b2 := b1.trans (hb2.mono b1.size); have z0 := o2.c00; have z1 := o2.c01; have z2 := o2.f0))
  all_goals go_wp2
  have r5 := o2.put (.string r1) (.string r2)
  refine bodyPost_ret_by (v := .agg #[.string r1, .string r2]) (by simp [results, Tryz.f132, go_sem, r5.c00, r5.c01]) rfl ⟨rfl, below_put2 b2 _ _ (Nat.le_succ _)⟩

theorem ent_art1_in : ∀ args w, (callFunc 132 args).run Tryz.prog w = .ok (.enter 132 args) w := enters_of Tryz.func132 (by kernel_rfl) rfl


set_option maxRecDepth 100000 in
set_option maxHeartbeats 8000000 in
theorem half1_in (k bs bx : Nat) (i : Nat) (x a : Int × Int) (w : World) (hs : RC bs w (.int .i64 (k : Int)) (.string (str ((10 ^ k : Nat) : Int)))) (hx : RC bx w (.string (str x.1)) (.string (str x.2)))
    (h1 : TimesOk k a x) (h2 : ByOk (pTimes k a x) (1) (2 * ((i : Int) + 1) + 1)) (hi : i ≤ 100000) (ht : TabOf w) :
    Calls Tryz.prog 147 (#[NV a, .int .i64 ((i : Int) + 1)] ++ #[.pointer (some ⟨bs, 0, none⟩), .pointer (some ⟨bx, 0, none⟩)]) w (NPost (pBy (pTimes k a x) (1) (2 * ((i : Int) + 1) + 1)) w) := by
  have HT := fun W h => timesP (w := W) h1 h
  have HB := fun W h => byP (k := k) (w := W) h2 h
  unfold NPost NV SV at HT HB
  unfold NPost NV
  generalize str (pBy (pTimes k a x) (1) (2 * ((i : Int) + 1) + 1)).1 = r1 at *
  generalize str (pBy (pTimes k a x) (1) (2 * ((i : Int) + 1) + 1)).2 = r2 at *
  generalize str (pTimes k a x).1 = m1 at *
  generalize str (pTimes k a x).2 = m2 at *
  generalize str a.1 = a1 at *
  generalize str a.2 = a2 at *
  generalize str x.1 = x1 at *
  generalize str x.2 = x2 at *
  generalize str ((10 ^ k : Nat) : Int) = one at *
  clear h1 h2
  have HT := Lib.hid HT
  have HB := Lib.hid HB
  obtain ⟨W0, hW0, k0, o0, b0⟩ := boxes2 w 61 61 (.string a1) (.string a2) (.string ⟨#[]⟩) (.string ⟨#[]⟩)
  have s0 := hs.belowB b0 (ltOf hs.c00)
  have q0 := hx.belowB b0 (ltOf hx.c00)
  have ls := ltOf hs.c00
  have lx := ltOf hx.c00
  clear hs hx
  subst hW0
  have k0d := k0.drew
  have o0d := o0.drew
  have s0d := s0.drew
  have q0d := q0.drew
  have b0d := b0.drew
  obtain ⟨z, hz⟩ : ∃ z : Int, z = (i : Int) + 1 := ⟨_, rfl⟩
  have hz1 : 1 ≤ z := by omega
  have hz2 : z ≤ 100001 := by omega
  rw [← hz] at HB ⊢
  have n0 : w.heap.size + 1 ≠ w.heap.size := by omega
  have ns : w.heap.size + 1 ≠ bs := by omega
  have nx : w.heap.size + 1 ≠ bx := by omega
  clear hz hi
  have hw0 : IntKind.i64.wrap (2 * z) = 2 * z := IntWalk.i64_in _ (by omega)
  have hw1 : IntKind.i64.wrap (2 * z + 1) = 2 * z + 1 := IntWalk.i64_in _ (by omega)
  go_enter Tryz.func147, Tryz.ntmps147
  go_wp2
  go_region_held3 (fun W => W.cell? ⟨w.heap.size, 0, none⟩ = some (.string a1) ∧ W.cell? ⟨w.heap.size, 1, none⟩ = some (.string a2) ∧ W.cell? ⟨bs, 0, none⟩ = some (.int .i64 (k : Int)) ∧ W.cell? ⟨bs, 1, none⟩ = some (.string one) ∧ W.cell? ⟨bx, 0, none⟩ = some (.string x1) ∧ W.cell? ⟨bx, 1, none⟩ = some (.string x2))
    (first | with_reducible exact ⟨k0d.c00, k0d.c01, s0d.c00, s0d.c01, q0d.c00, q0d.c01⟩ | with_reducible exact ⟨k1.c00, k1.c01, s1.c00, s1.c01, q1.c00, q1.c01⟩ | with_reducible exact ⟨k2.c00, k2.c01, s2.c00, s2.c01, q2.c00, q2.c01⟩ | exact ⟨cell_put2 k2.c00 n0 _ _, cell_put2 k2.c01 n0 _ _, cell_put2 s2.c00 ns _ _, cell_put2 s2.c01 ns _ _, cell_put2 q2.c00 nx _ _, cell_put2 q2.c01 nx _ _⟩) (first
    | (go_at_call 88; refine (HT.out (World.drew _) (ht.below b0d)).mono ?_; rintro e w1 ⟨rfl, hb1⟩; have k1 := k0d.below hb1; have o1 := o0d.below hb1; have s1 := s0d.below hb1; have q1 := q0d.below hb1; have b1 := b0d.trans (hb1.mono b0d.size))
    | (go_at_call 84; refine (HB.out _ (ht.below b1)).mono ?_; rintro e w2 ⟨rfl, hb2⟩; have k2 := k1.below hb2; have o2 := o1.below hb2; have s2 := s1.below hb2; have q2 := q1.below hb2; have b2 := b1.trans (hb2.mono b1.size); have z0 := o2.c00; have z1 := o2.c01; have z2 := o2.f0))
  all_goals go_wp2
  have r5 := o2.put (.string r1) (.string r2)
  refine bodyPost_ret_by (v := .agg #[.string r1, .string r2]) (by simp [results, Tryz.f147, go_sem, r5.c00, r5.c01]) rfl ⟨rfl, below_put2 b2 _ _ (Nat.le_succ _)⟩

theorem ent_half1_in : ∀ args w, (callFunc 147 args).run Tryz.prog w = .ok (.enter 147 args) w := enters_of Tryz.func147 (by kernel_rfl) rfl


set_option maxRecDepth 100000 in
set_option maxHeartbeats 8000000 in
theorem tail1_in (k bs bx : Nat) (bv : Nat) (v : Int) (i : Nat) (x a : Int × Int) (w : World) (hs : RC bs w (.int .i64 (k : Int)) (.string (str ((10 ^ k : Nat) : Int)))) (hx : RC bx w (.string (str x.1)) (.string (str x.2))) (hv : w.cell? ⟨bv, 0, none⟩ = some (.int .i64 v))
    (h1 : TimesOk k a x) (h2 : ByOk (pTimes k a x) (2) (v + 2 * ((i : Int) + 1))) (hi : i ≤ 100000) (hbv : 0 ≤ v ∧ v ≤ 100000) (ht : TabOf w) :
    Calls Tryz.prog 116 (#[NV a, .int .i64 ((i : Int) + 1)] ++ #[.pointer (some ⟨bs, 0, none⟩), .pointer (some ⟨bx, 0, none⟩), .pointer (some ⟨bv, 0, none⟩)]) w (NPost (pBy (pTimes k a x) (2) (v + 2 * ((i : Int) + 1))) w) := by
  have HT := fun W h => timesP (w := W) h1 h
  have HB := fun W h => byP (k := k) (w := W) h2 h
  unfold NPost NV SV at HT HB
  unfold NPost NV
  generalize str (pBy (pTimes k a x) (2) (v + 2 * ((i : Int) + 1))).1 = r1 at *
  generalize str (pBy (pTimes k a x) (2) (v + 2 * ((i : Int) + 1))).2 = r2 at *
  generalize str (pTimes k a x).1 = m1 at *
  generalize str (pTimes k a x).2 = m2 at *
  generalize str a.1 = a1 at *
  generalize str a.2 = a2 at *
  generalize str x.1 = x1 at *
  generalize str x.2 = x2 at *
  generalize str ((10 ^ k : Nat) : Int) = one at *
  clear h1 h2
  have HT := Lib.hid HT
  have HB := Lib.hid HB
  obtain ⟨W0, hW0, k0, o0, b0⟩ := boxes2 w 61 61 (.string a1) (.string a2) (.string ⟨#[]⟩) (.string ⟨#[]⟩)
  have s0 := hs.belowB b0 (ltOf hs.c00)
  have q0 := hx.belowB b0 (ltOf hx.c00)
  have cv := (b0.cell (p := ⟨bv, 0, none⟩) (ltOf hv)).trans hv
  have ls := ltOf hs.c00
  have lx := ltOf hx.c00
  have lv := ltOf hv
  clear hs hx hv
  subst hW0
  have k0d := k0.drew
  have o0d := o0.drew
  have s0d := s0.drew
  have q0d := q0.drew
  have b0d := b0.drew
  obtain ⟨z, hz⟩ : ∃ z : Int, z = (i : Int) + 1 := ⟨_, rfl⟩
  have hz1 : 1 ≤ z := by omega
  have hz2 : z ≤ 100001 := by omega
  rw [← hz] at HB ⊢
  have n0 : w.heap.size + 1 ≠ w.heap.size := by omega
  have ns : w.heap.size + 1 ≠ bs := by omega
  have nx : w.heap.size + 1 ≠ bx := by omega
  clear hz hi
  have nv : w.heap.size + 1 ≠ bv := by omega
  have hw0 : IntKind.i64.wrap (2 * z) = 2 * z := IntWalk.i64_in _ (by omega)
  have hw1 : IntKind.i64.wrap (v + 2 * z) = v + 2 * z := IntWalk.i64_in _ (by omega)
  have e0dv : (((w.alloc (.cells #[.string a1, .string a2] 61)).alloc (.cells #[.string ⟨#[]⟩, .string ⟨#[]⟩] 61)).drew).cell? ⟨bv, 0, none⟩ = some (.int .i64 v) := cv
  go_enter Tryz.func116, Tryz.ntmps116
  go_wp2
  go_region_held3 (fun W => W.cell? ⟨w.heap.size, 0, none⟩ = some (.string a1) ∧ W.cell? ⟨w.heap.size, 1, none⟩ = some (.string a2) ∧ W.cell? ⟨bs, 0, none⟩ = some (.int .i64 (k : Int)) ∧ W.cell? ⟨bs, 1, none⟩ = some (.string one) ∧ W.cell? ⟨bx, 0, none⟩ = some (.string x1) ∧ W.cell? ⟨bx, 1, none⟩ = some (.string x2) ∧ W.cell? ⟨bv, 0, none⟩ = some (.int .i64 v))
    (first | with_reducible exact ⟨k0d.c00, k0d.c01, s0d.c00, s0d.c01, q0d.c00, q0d.c01, e0dv⟩ | with_reducible exact ⟨k1.c00, k1.c01, s1.c00, s1.c01, q1.c00, q1.c01, e1v⟩ | with_reducible exact ⟨k2.c00, k2.c01, s2.c00, s2.c01, q2.c00, q2.c01, e2v⟩ | exact ⟨cell_put2 k2.c00 n0 _ _, cell_put2 k2.c01 n0 _ _, cell_put2 s2.c00 ns _ _, cell_put2 s2.c01 ns _ _, cell_put2 q2.c00 nx _ _, cell_put2 q2.c01 nx _ _, cell_put2 e2v nv _ _⟩) (first
    | (go_at_call 88; refine (HT.out (World.drew _) (ht.below b0d)).mono ?_; rintro e w1 ⟨rfl, hb1⟩; have k1 := k0d.below hb1; have o1 := o0d.below hb1; have s1 := s0d.below hb1; have q1 := q0d.below hb1; have b1 := b0d.trans (hb1.mono b0d.size); have e1v := Below.get hb1 e0dv)
    | (go_at_call 84; refine (HB.out _ (ht.below b1)).mono ?_; rintro e w2 ⟨rfl, hb2⟩; have k2 := k1.below hb2; have o2 := o1.below hb2; have s2 := s1.below hb2; have q2 := q1.below hb2; have b2 := b1.trans (hb2.mono b1.size); have e2v := Below.get hb2 e1v; have z0 := o2.c00; have z1 := o2.c01; have z2 := o2.f0))
  all_goals go_wp2
  have r5 := o2.put (.string r1) (.string r2)
  refine bodyPost_ret_by (v := .agg #[.string r1, .string r2]) (by simp [results, Tryz.f116, go_sem, r5.c00, r5.c01]) rfl ⟨rfl, below_put2 b2 _ _ (Nat.le_succ _)⟩

theorem ent_tail1_in : ∀ args w, (callFunc 116 args).run Tryz.prog w = .ok (.enter 116 args) w := enters_of Tryz.func116 (by kernel_rfl) rfl

end Go.Proofs.YtppbhnhmaocdnaaGreatDoor
