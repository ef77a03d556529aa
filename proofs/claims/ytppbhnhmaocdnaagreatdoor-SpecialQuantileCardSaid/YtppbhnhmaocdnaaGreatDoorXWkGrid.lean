/- law06: grid, at a cell and at a point. -/
import Derived.Test.YtppbhnhmaocdnaaGreatDoorXWkEnc6
set_option linter.unusedVariables false
set_option linter.unusedSimpArgs false
namespace Go.Proofs.YtppbhnhmaocdnaaGreatDoor
open Go.RowKit Go.Shelf

set_option maxRecDepth 100000 in
set_option maxHeartbeats 8000000 in
theorem lgrid_cell (p tp : Int) (a b c d u1 u2 s0 s1 : ByteArray) (w : World) (ht : TabOf w) (hne : ¬ u1.toList = s0.toList)
    (hr : ∀ W, TabOf W → Calls Tryz.prog 59 #[.agg #[.string a, .string b, .string c, .string d], .int .i64 p] W (AnsPost a b c d 0 W))
    (hw : ∀ W, TabOf W → Calls Tryz.prog 60 #[.agg #[.string a, .string b, .string c, .string d]] W (RPost u1 u2 W))
    (ho0 : ∀ W, TabOf W → Calls Tryz.prog 12 #[.int .i64 0, .int .i64 1] W (OfPost s0 s1 W))
    (hten : ∀ W, Calls Tryz.prog 61 #[.int .i64 p] W (IntPost tp W))
    (ho1 : ∀ W, TabOf W → Calls Tryz.prog 12 #[.int .i64 1, .int .i64 tp] W (OfPost u1 u2 W)) :
    Calls Tryz.prog 19 #[.agg #[.string a, .string b, .string c, .string d], .int .i64 p] w (TruePost w) := by
  unfold AnsPost at hr
  unfold RPost at hw
  unfold OfPost at ho0 ho1
  unfold IntPost at hten
  unfold TruePost
  have HR := Lib.hid hr; clear hr
  have HW := Lib.hid hw; clear hw
  have HO0 := Lib.hid ho0; clear ho0
  have HO1 := Lib.hid ho1; clear ho1
  have HT := Lib.hid hten; clear hten
  have x0 := (Bc.nil w).push4 32 (.string a) (.string b) (.string c) (.string d)
  go_enter Tryz.func19, Tryz.ntmps19
  go_wp2_with (first
    | (have hchk := x0; clear hchk; go_at_call 59; refine (HR.out _ (ht.below x0.b)).mono ?_; rintro e w1 ⟨rfl, hb1⟩; have x1 := (x0.below hb1).push4 32 (.string a) (.string b) (.string c) (.string d); clear hb1 x0; have z0 := x1.k (w.heap.size, 0, .string a) (by simp); have z1 := x1.k (w.heap.size, 1, .string b) (by simp); have z2 := x1.k (w.heap.size, 2, .string c) (by simp); have z3 := x1.k (w.heap.size, 3, .string d) (by simp))
    | (go_at_call 60; refine (HW.out _ (ht.below x1.b)).mono ?_; rintro e w2 ⟨rfl, hb2⟩; have x2 := (x1.below hb2).push2 25 (.string u1) (.string u2); clear hb2 x1 z0 z1 z2 z3))
  have hS : ∀ W, Bc w ([] ++ [(w.heap.size, 0, .string a), (w.heap.size, 1, .string b), (w.heap.size, 2, .string c), (w.heap.size, 3, .string d)] ++ [(w1.heap.size, 0, .string a), (w1.heap.size, 1, .string b), (w1.heap.size, 2, .string c), (w1.heap.size, 3, .string d)] ++ [(w2.heap.size, 0, .string u1), (w2.heap.size, 1, .string u2)]) W →
      W.cell? ⟨w.heap.size, 0, none⟩ = some (.string a) ∧ W.cell? ⟨w.heap.size, 1, none⟩ = some (.string b) ∧ W.cell? ⟨w.heap.size, 2, none⟩ = some (.string c) ∧ W.cell? ⟨w.heap.size, 3, none⟩ = some (.string d) ∧
      W.cell? ⟨w1.heap.size, 0, none⟩ = some (.string a) ∧ W.cell? ⟨w1.heap.size, 1, none⟩ = some (.string b) ∧ W.cell? ⟨w1.heap.size, 2, none⟩ = some (.string c) ∧ W.cell? ⟨w1.heap.size, 3, none⟩ = some (.string d) ∧
      W.cell? ⟨w2.heap.size, 0, none⟩ = some (.string u1) ∧ W.cell? ⟨w2.heap.size, 1, none⟩ = some (.string u2) := fun W h =>
    ⟨h.k (_, _, _) (by simp), h.k (_, _, _) (by simp), h.k (_, _, _) (by simp), h.k (_, _, _) (by simp), h.k (_, _, _) (by simp), h.k (_, _, _) (by simp), h.k (_, _, _) (by simp), h.k (_, _, _) (by simp), h.k (_, _, _) (by simp), h.k (_, _, _) (by simp)⟩
  generalize ([] ++ [(w.heap.size, 0, .string a), (w.heap.size, 1, .string b), (w.heap.size, 2, .string c), (w.heap.size, 3, .string d)] ++ [(w1.heap.size, 0, .string a), (w1.heap.size, 1, .string b), (w1.heap.size, 2, .string c), (w1.heap.size, 3, .string d)] ++ [(w2.heap.size, 0, .string u1), (w2.heap.size, 1, .string u2)] : List (Nat × Nat × Value)) = l at *
  replace hS := Lib.hid hS
  generalize w2.alloc (.cells #[.string u1, .string u2] 25) = W2 at *
  have r0 := x2.drew
  clear x2
  go_region_held3 (fun W => W.cell? ⟨w.heap.size, 0, none⟩ = some (.string a) ∧ W.cell? ⟨w.heap.size, 1, none⟩ = some (.string b) ∧ W.cell? ⟨w.heap.size, 2, none⟩ = some (.string c) ∧ W.cell? ⟨w.heap.size, 3, none⟩ = some (.string d) ∧
      W.cell? ⟨w1.heap.size, 0, none⟩ = some (.string a) ∧ W.cell? ⟨w1.heap.size, 1, none⟩ = some (.string b) ∧ W.cell? ⟨w1.heap.size, 2, none⟩ = some (.string c) ∧ W.cell? ⟨w1.heap.size, 3, none⟩ = some (.string d) ∧
      W.cell? ⟨w2.heap.size, 0, none⟩ = some (.string u1) ∧ W.cell? ⟨w2.heap.size, 1, none⟩ = some (.string u2))
    (first
      | with_reducible exact hS.out _ r0
      | with_reducible exact hS.out _ r1
      | with_reducible exact hS.out _ r2
      | with_reducible exact hS.out _ r3) (first
    | (have hchk := r0; clear hchk; go_at_call 12; refine (HO0.out (World.drew _) (ht.below r0.b)).mono ?_; rintro e v1 ⟨rfl, hb⟩; have r1 := r0.below hb; clear hb r0)
    | (have hchk := r1; clear hchk; go_at_call 61; refine (HT.out _).mono ?_; rintro e v2 ⟨rfl, hb⟩; have r2 := r1.below hb; clear hb r1)
    | (have hchk := r2; clear hchk; go_at_call 12; refine (HO1.out _ (ht.below r2.b)).mono ?_; rintro e v3 ⟨rfl, hb⟩; have r3 := r2.below hb; clear hb r2))
  all_goals
    go_wp2
    refine bodyPost_ret_by (v := .bool true) (by simp [results, Tryz.f19, go_sem]) rfl ⟨rfl, r3.b⟩
end Go.Proofs.YtppbhnhmaocdnaaGreatDoor
