/- law06: SpecialQuantile, from what its calls answer. PRINTED by wip/gqu.py. -/
import Derived.Test.YtppbhnhmaocdnaaGreatDoorXWkQuH
set_option linter.unusedVariables false
set_option linter.unusedSimpArgs false
namespace Go.Proofs.YtppbhnhmaocdnaaGreatDoor
open Go.RowKit Go.Shelf

set_option maxRecDepth 100000 in
set_option maxHeartbeats 20000000 in
theorem lquant_raw (w : World) (ht : TabOf w) (n0 pl0 v1 q n m k1 k2 : Int) (p1 p2 x1 x2 x3 x4 m1 m2 y1 y2 y3 y4 l1 l2 l3 l4 h1 h2 h3 h4 s0 s1 : ByteArray)
    (hw1 : IntKind.i64.wrap (1 + v1) = n) (hw2 : IntKind.i64.wrap (1000 - n) = m)
    (hk1 : decide (k1 ≤ 0) = true) (hk2 : decide (0 ≤ k2) = true)
    (hp1 : ∀ W, Calls Tryz.prog 14 #[.int .i64 n0, .int .i64 999] W (IntPost v1 W))
    (hp2 : ∀ W, Calls Tryz.prog 14 #[.int .i64 pl0, .int .i64 3] W (IntPost q W))
    (hop : ∀ W, TabOf W → Calls Tryz.prog 12 #[.int .i64 n, .int .i64 1000] W (OfPost p1 p2 W))
    (hqx : ∀ W, TabOf W → Calls Tryz.prog 18 #[.agg #[.string p1, .string p2], .int .i64 q] W (AnsPost x1 x2 x3 x4 0 W))
    (hom : ∀ W, TabOf W → Calls Tryz.prog 12 #[.int .i64 m, .int .i64 1000] W (OfPost m1 m2 W))
    (hqy : ∀ W, TabOf W → Calls Tryz.prog 18 #[.agg #[.string m1, .string m2], .int .i64 q] W (AnsPost y1 y2 y3 y4 0 W))
    (hgr : ∀ W, TabOf W → Calls Tryz.prog 19 #[.agg #[.string x1, .string x2, .string x3, .string x4], .int .i64 q] W (TruePost W))
    (hn1 : ∀ W, TabOf W → Calls Tryz.prog 20 #[.agg #[.string x1, .string x2], .int .i64 10] W (AnsPost l1 l2 l3 l4 0 W))
    (hn2 : ∀ W, TabOf W → Calls Tryz.prog 20 #[.agg #[.string x3, .string x4], .int .i64 10] W (AnsPost h1 h2 h3 h4 0 W))
    (ho0 : ∀ W, TabOf W → Calls Tryz.prog 12 #[.int .i64 0, .int .i64 1] W (OfPost s0 s1 W))
    (hpt : ∀ W, TabOf W → Calls Tryz.prog 22 #[.agg #[.string s0, .string s1]] W fun e w' => e = .returned (.agg #[.string s0, .string s1, .string s0, .string s1]) ∧ Below W.heap.size W w')
    (hsb : ∀ W, TabOf W → Calls Tryz.prog 21 #[.agg #[.string s0, .string s1, .string s0, .string s1], .agg #[.string y1, .string y2, .string y3, .string y4]] W (AnsPost x1 x2 x3 x4 0 W))
    (hc1 : ∀ W, TabOf W → Calls Tryz.prog 17 #[.agg #[.string l1, .string l2], .agg #[.string p1, .string p2]] W (IntPost k1 W))
    (hc2 : ∀ W, TabOf W → Calls Tryz.prog 17 #[.agg #[.string h3, .string h4], .agg #[.string p1, .string p2]] W (IntPost k2 W)) :
    Calls Tryz.prog 4 #[.int .i64 n0, .int .i64 pl0] w (TruePost w) := by
  have hsa := fun W h => lsane_in W h
  unfold TruePost at hsa hgr
  unfold TruePost
  unfold IntPost at hp1 hp2 hc1 hc2
  unfold OfPost at hop hom ho0
  unfold AnsPost at hqx hqy hn1 hn2 hsb
  have HSA := Lib.hid hsa; clear hsa
  have HP1 := Lib.hid hp1; clear hp1
  have HP2 := Lib.hid hp2; clear hp2
  have HOP := Lib.hid hop; clear hop
  have HQX := Lib.hid hqx; clear hqx
  have HOM := Lib.hid hom; clear hom
  have HQY := Lib.hid hqy; clear hqy
  have HGR := Lib.hid hgr; clear hgr
  have HN1 := Lib.hid hn1; clear hn1
  have HN2 := Lib.hid hn2; clear hn2
  have HO0 := Lib.hid ho0; clear ho0
  have HPT := Lib.hid hpt; clear hpt
  have HSB := Lib.hid hsb; clear hsb
  have HC1 := Lib.hid hc1; clear hc1
  have HC2 := Lib.hid hc2; clear hc2
  have x0 := Bc.nil w
  go_enter Tryz.func4, Tryz.ntmps4
  go_wp2_with (first
    | (have hchk := x0; clear hchk; go_at_call 9; refine (HSA.out _ (ht.below x0.b)).mono ?_; rintro e w0 ⟨rfl, hb0⟩; have g0 := x0.below hb0; clear hb0 x0 )
    | (have hchk := g0; clear hchk; go_at_call 14; refine (HP1.out _ ).mono ?_; rintro e w1 ⟨rfl, hb1⟩; have g1 := g0.below hb1; clear hb1 g0 )
    | (have hchk := g1; clear hchk; go_at_call 14; refine (HP2.out _ ).mono ?_; rintro e w2 ⟨rfl, hb2⟩; have g2 := g1.below hb2; clear hb2 g1 )
    | (have hchk := g2; clear hchk; go_at_call 12; refine (HOP.out _ (ht.below g2.b)).mono ?_; rintro e w3 ⟨rfl, hb3⟩; have g3 := (g2.below hb3).push2 25 (.string p1) (.string p2); clear hb3 g2 )
    | (have hchk := g3; clear hchk; go_at_call 18; refine (HQX.out _ (ht.below g3.b)).mono ?_; rintro e w4 ⟨rfl, hb4⟩; have g4 := (g3.below hb4).push4 32 (.string x1) (.string x2) (.string x3) (.string x4); clear hb4 g3 )
    | (have hchk := g4; clear hchk; go_at_call 12; refine (HOM.out _ (ht.below g4.b)).mono ?_; rintro e w5 ⟨rfl, hb5⟩; have g5 := g4.below hb5; clear hb5 g4 )
    | (have hchk := g5; clear hchk; go_at_call 18; refine (HQY.out _ (ht.below g5.b)).mono ?_; rintro e w6 ⟨rfl, hb6⟩; have g6 := (g5.below hb6).push4 32 (.string y1) (.string y2) (.string y3) (.string y4); clear hb6 g5 ; have z0 := g6.k (w4.heap.size, 0, .string x1) (by simp); have z1 := g6.k (w4.heap.size, 1, .string x2) (by simp); have z2 := g6.k (w4.heap.size, 2, .string x3) (by simp); have z3 := g6.k (w4.heap.size, 3, .string x4) (by simp))
    | (have hchk := g6; clear hchk; go_at_call 19; refine (HGR.out _ (ht.below g6.b)).mono ?_; rintro e w7 ⟨rfl, hb7⟩; have g7 := g6.below hb7; clear hb7 g6 z0 z1 z2 z3; have z0 := g7.k (w4.heap.size, 0, .string x1) (by simp); have z1 := g7.k (w4.heap.size, 1, .string x2) (by simp); have z2 := g7.k (w4.heap.size, 2, .string x3) (by simp); have z3 := g7.k (w4.heap.size, 3, .string x4) (by simp))
    | (have hchk := g7; clear hchk; go_at_call 20; refine (HN1.out _ (ht.below g7.b)).mono ?_; rintro e w8 ⟨rfl, hb8⟩; have g8 := (g7.below hb8).push4 32 (.string l1) (.string l2) (.string l3) (.string l4); clear hb8 g7 z0 z1 z2 z3; have z0 := g8.k (w4.heap.size, 0, .string x1) (by simp); have z1 := g8.k (w4.heap.size, 1, .string x2) (by simp); have z2 := g8.k (w4.heap.size, 2, .string x3) (by simp); have z3 := g8.k (w4.heap.size, 3, .string x4) (by simp))
    | (have hchk := g8; clear hchk; go_at_call 20; refine (HN2.out _ (ht.below g8.b)).mono ?_; rintro e w9 ⟨rfl, hb9⟩; have g9 := (g8.below hb9).push4 32 (.string h1) (.string h2) (.string h3) (.string h4); clear hb9 g8 z0 z1 z2 z3))
  have g9' := g9.sub (l' := [(w3.heap.size, 0, .string p1), (w3.heap.size, 1, .string p2), (w4.heap.size, 0, .string x1), (w4.heap.size, 1, .string x2), (w4.heap.size, 2, .string x3), (w4.heap.size, 3, .string x4), (w6.heap.size, 0, .string y1), (w6.heap.size, 1, .string y2), (w6.heap.size, 2, .string y3), (w6.heap.size, 3, .string y4), (w8.heap.size, 0, .string l1), (w8.heap.size, 1, .string l2), (w8.heap.size, 2, .string l3), (w8.heap.size, 3, .string l4), (w9.heap.size, 0, .string h1), (w9.heap.size, 1, .string h2), (w9.heap.size, 2, .string h3), (w9.heap.size, 3, .string h4)]) (by simp)
  clear g9
  generalize hW9 : w9.alloc (.cells #[.string h1, .string h2, .string h3, .string h4] 32) = W9 at *
  clear hW9
  rename_i K11 hK11
  have REST11 : ∀ (u17 u18 u19 u20 u21 u22 u23 u24 u25 u26 u27 u28 u29 u30 u31 u32 u33 u34 u35 u36 u37 u38 u39 u40 u41 u42 u43 u44 u45 u46 u47 u48 u49 u50 u51 u52 u53 u54 u55 u56 u57 u58 u59 u60 u61 u62 u63 u64 u65 u66 u67 u68 u69 u70 u71 u72 u73 u74 u75 u76 u77 u78 u79 u80 u81 u82 u83 u84 u85 u86 u87 u88 u89 u90 u91 u92 u93 u94 u95 u96 u97 u98 u99 u100 u101 : Value) (R15 : Nat) (F11 : World), Bc w ([(w3.heap.size, 0, .string p1), (w3.heap.size, 1, .string p2), (w4.heap.size, 0, .string x1), (w4.heap.size, 1, .string x2), (w4.heap.size, 2, .string x3), (w4.heap.size, 3, .string x4), (w6.heap.size, 0, .string y1), (w6.heap.size, 1, .string y2), (w6.heap.size, 2, .string y3), (w6.heap.size, 3, .string y4), (w8.heap.size, 0, .string l1), (w8.heap.size, 1, .string l2), (w8.heap.size, 2, .string l3), (w8.heap.size, 3, .string l4), (w9.heap.size, 0, .string h1), (w9.heap.size, 1, .string h2), (w9.heap.size, 2, .string h3), (w9.heap.size, 3, .string h4)] ++ [(R15, 0, .string x1), (R15, 1, .string x2), (R15, 2, .string x3), (R15, 3, .string x4)]) F11 → K11 { tmps := #[.int .i64 n, .int .i64 q, undef, undef, .bool false, .bool true, .pointer (some ⟨w3.heap.size, 0, none⟩), .pointer (some ⟨w4.heap.size, 0, none⟩), .int .i64 0, .pointer (some ⟨w6.heap.size, 0, none⟩), .int .i64 0, .pointer (some ⟨w8.heap.size, 0, none⟩), .int .i64 0, .pointer (some ⟨w9.heap.size, 0, none⟩), .int .i64 0, .pointer (some ⟨R15, 0, none⟩), .int .i64 0, u17, u18, u19, u20, u21, u22, u23, u24, u25, u26, u27, u28, u29, u30, u31, u32, u33, u34, u35, u36, u37, u38, u39, u40, u41, u42, u43, u44, u45, u46, u47, u48, u49, u50, u51, u52, u53, u54, u55, u56, u57, u58, u59, u60, u61, u62, u63, u64, u65, u66, u67, u68, u69, u70, u71, u72, u73, u74, u75, u76, u77, u78, u79, u80, u81, u82, u83, u84, u85, u86, u87, u88, u89, u90, u91, u92, u93, u94, u95, u96, u97, u98, u99, u100, u101], defers := [] } F11 := by
    intro u17 u18 u19 u20 u21 u22 u23 u24 u25 u26 u27 u28 u29 u30 u31 u32 u33 u34 u35 u36 u37 u38 u39 u40 u41 u42 u43 u44 u45 u46 u47 u48 u49 u50 u51 u52 u53 u54 u55 u56 u57 u58 u59 u60 u61 u62 u63 u64 u65 u66 u67 u68 u69 u70 u71 u72 u73 u74 u75 u76 u77 u78 u79 u80 u81 u82 u83 u84 u85 u86 u87 u88 u89 u90 u91 u92 u93 u94 u95 u96 u97 u98 u99 u100 u101 R15 F11 gin
    have g11 := gin.sub (l' := [(w3.heap.size, 0, .string p1), (w3.heap.size, 1, .string p2), (w4.heap.size, 0, .string x1), (w4.heap.size, 1, .string x2), (w4.heap.size, 2, .string x3), (w4.heap.size, 3, .string x4), (w6.heap.size, 0, .string y1), (w6.heap.size, 1, .string y2), (w6.heap.size, 2, .string y3), (w6.heap.size, 3, .string y4), (w8.heap.size, 0, .string l1), (w8.heap.size, 1, .string l2), (w8.heap.size, 2, .string l3), (w8.heap.size, 3, .string l4), (w9.heap.size, 0, .string h1), (w9.heap.size, 1, .string h2), (w9.heap.size, 2, .string h3), (w9.heap.size, 3, .string h4), (R15, 0, .string x1), (R15, 1, .string x2), (R15, 2, .string x3), (R15, 3, .string x4)]) (by simp)
    clear gin g9'
    refine hK11 _ _ ?_
    clear hK11
    have z0 : F11.cell? ⟨w3.heap.size, 0, none⟩ = some (.string p1) := g11.k (_, _, _) (by simp)
    have z1 : F11.cell? ⟨w3.heap.size, 1, none⟩ = some (.string p2) := g11.k (_, _, _) (by simp)
    have z2 : F11.cell? ⟨w4.heap.size, 0, none⟩ = some (.string x1) := g11.k (_, _, _) (by simp)
    have z3 : F11.cell? ⟨w4.heap.size, 1, none⟩ = some (.string x2) := g11.k (_, _, _) (by simp)
    have z4 : F11.cell? ⟨w4.heap.size, 2, none⟩ = some (.string x3) := g11.k (_, _, _) (by simp)
    have z5 : F11.cell? ⟨w4.heap.size, 3, none⟩ = some (.string x4) := g11.k (_, _, _) (by simp)
    have z6 : F11.cell? ⟨w8.heap.size, 0, none⟩ = some (.string l1) := g11.k (_, _, _) (by simp)
    have z7 : F11.cell? ⟨w8.heap.size, 1, none⟩ = some (.string l2) := g11.k (_, _, _) (by simp)
    have z8 : F11.cell? ⟨w8.heap.size, 2, none⟩ = some (.string l3) := g11.k (_, _, _) (by simp)
    have z9 : F11.cell? ⟨w8.heap.size, 3, none⟩ = some (.string l4) := g11.k (_, _, _) (by simp)
    have z10 : F11.cell? ⟨w9.heap.size, 0, none⟩ = some (.string h1) := g11.k (_, _, _) (by simp)
    have z11 : F11.cell? ⟨w9.heap.size, 1, none⟩ = some (.string h2) := g11.k (_, _, _) (by simp)
    have z12 : F11.cell? ⟨w9.heap.size, 2, none⟩ = some (.string h3) := g11.k (_, _, _) (by simp)
    have z13 : F11.cell? ⟨w9.heap.size, 3, none⟩ = some (.string h4) := g11.k (_, _, _) (by simp)
    have z14 : F11.cell? ⟨R15, 0, none⟩ = some (.string x1) := g11.k (_, _, _) (by simp)
    have z15 : F11.cell? ⟨R15, 1, none⟩ = some (.string x2) := g11.k (_, _, _) (by simp)
    have z16 : F11.cell? ⟨R15, 2, none⟩ = some (.string x3) := g11.k (_, _, _) (by simp)
    have z17 : F11.cell? ⟨R15, 3, none⟩ = some (.string x4) := g11.k (_, _, _) (by simp)
    go_wp2_with (first
      | (have hchk := g11; clear hchk; go_at_call 17; refine (HC1.out _ (ht.below g11.b)).mono ?_; rintro e cv1 ⟨rfl, hb⟩; have c1 := g11.below hb; clear hb g11; have fa0 := c1.k (w3.heap.size, 0, .string p1) (by simp); have fa1 := c1.k (w3.heap.size, 1, .string p2) (by simp); have fa2 := c1.k (w4.heap.size, 0, .string x1) (by simp); have fa3 := c1.k (w4.heap.size, 1, .string x2) (by simp); have fa4 := c1.k (w4.heap.size, 2, .string x3) (by simp); have fa5 := c1.k (w4.heap.size, 3, .string x4) (by simp); have fa6 := c1.k (w9.heap.size, 0, .string h1) (by simp); have fa7 := c1.k (w9.heap.size, 1, .string h2) (by simp); have fa8 := c1.k (w9.heap.size, 2, .string h3) (by simp); have fa9 := c1.k (w9.heap.size, 3, .string h4) (by simp); have fa10 := c1.k (R15, 0, .string x1) (by simp); have fa11 := c1.k (R15, 1, .string x2) (by simp); have fa12 := c1.k (R15, 2, .string x3) (by simp); have fa13 := c1.k (R15, 3, .string x4) (by simp))
      | (go_at_call 17; refine (HC2.out _ (ht.below c1.b)).mono ?_; rintro e cv2 ⟨rfl, hb⟩; have c2 := c1.below hb; have fb0 := c2.k (w4.heap.size, 0, .string x1) (by simp); have fb1 := c2.k (w4.heap.size, 1, .string x2) (by simp); have fb2 := c2.k (w4.heap.size, 2, .string x3) (by simp); have fb3 := c2.k (w4.heap.size, 3, .string x4) (by simp); have fb4 := c2.k (R15, 0, .string x1) (by simp); have fb5 := c2.k (R15, 1, .string x2) (by simp); have fb6 := c2.k (R15, 2, .string x3) (by simp); have fb7 := c2.k (R15, 3, .string x4) (by simp)))
    refine bodyPost_ret_by (v := .bool true) (by simp [results, Tryz.f4, go_sem]) rfl ⟨rfl, c2.b⟩
  clear hK11
  replace REST11 := Lib.hid REST11
  have S11 : ∀ W, Bc w ([(w3.heap.size, 0, .string p1), (w3.heap.size, 1, .string p2), (w4.heap.size, 0, .string x1), (w4.heap.size, 1, .string x2), (w4.heap.size, 2, .string x3), (w4.heap.size, 3, .string x4), (w6.heap.size, 0, .string y1), (w6.heap.size, 1, .string y2), (w6.heap.size, 2, .string y3), (w6.heap.size, 3, .string y4), (w8.heap.size, 0, .string l1), (w8.heap.size, 1, .string l2), (w8.heap.size, 2, .string l3), (w8.heap.size, 3, .string l4), (w9.heap.size, 0, .string h1), (w9.heap.size, 1, .string h2), (w9.heap.size, 2, .string h3), (w9.heap.size, 3, .string h4)]) W → (W.cell? ⟨w6.heap.size, 0, none⟩ = some (.string y1) ∧ W.cell? ⟨w6.heap.size, 1, none⟩ = some (.string y2) ∧ W.cell? ⟨w6.heap.size, 2, none⟩ = some (.string y3) ∧ W.cell? ⟨w6.heap.size, 3, none⟩ = some (.string y4)) := fun W h => ⟨h.k (_, _, _) (by simp), h.k (_, _, _) (by simp), h.k (_, _, _) (by simp), h.k (_, _, _) (by simp)⟩
  replace S11 := Lib.hid S11
  have rr := g9'
  have r0 := rr.drew
  clear g9'
  go_region_held3 (fun W => W.cell? ⟨w6.heap.size, 0, none⟩ = some (.string y1) ∧ W.cell? ⟨w6.heap.size, 1, none⟩ = some (.string y2) ∧ W.cell? ⟨w6.heap.size, 2, none⟩ = some (.string y3) ∧ W.cell? ⟨w6.heap.size, 3, none⟩ = some (.string y4))
    (first
      | with_reducible exact S11.out _ r0
      | with_reducible exact S11.out _ r1
      | with_reducible exact S11.out _ r2
      | with_reducible exact S11.out _ r3
      | with_reducible exact S11.out _ nb1.b
      | with_reducible exact S11.out _ nb2.b
      | with_reducible exact S11.out _ nb3.b
      | with_reducible exact S11.out _ (rr.new _).drew
      | with_reducible exact S11.out _ (r1.new _)
      | with_reducible exact S11.out _ (r2.new _)
      | with_reducible exact S11.out _ (r3.new _)
      | exact S11.out _ (nb1.put _ _ _ _).left
      | exact S11.out _ (nb2.put _ _ _ _).left
      | exact S11.out _ (nb3.put _ _ _ _).left
      | exact S11.out _ ((Bm.start r1 _ _ _ _ _).put _ _ _ _).left
      | exact S11.out _ ((Bm.start r2 _ _ _ _ _).put _ _ _ _).left
      | exact S11.out _ ((Bm.start r3 _ _ _ _ _).put _ _ _ _).left) (first
    | (have hchk := r0; clear hchk; with_reducible show Calls _ _ _ (World.drew (World.alloc _ _)) _; go_at_call 12; refine (HO0.out (World.drew (World.alloc _ _)) (ht.below (rr.new _).drew.b)).mono ?_; rintro e cv1 ⟨rfl, hb⟩; have nb1 := (Bm.start rr 32 (.string ⟨#[]⟩) (.string ⟨#[]⟩) (.string ⟨#[]⟩) (.string ⟨#[]⟩)).drew.below hb; clear hb r0; have cy0 := nb1.n.c0; have cy1 := nb1.n.c1; have cy2 := nb1.n.c2; have cy3 := nb1.n.c3; have cyf := nb1.n.f)
    | (have hchk := r0; clear hchk; go_at_call 12; refine (HO0.out (World.drew _) (ht.below r0.b)).mono ?_; rintro e cv1 ⟨rfl, hb⟩; have r1 := r0.below hb; clear hb r0)
    | (have hchk := r1; clear hchk; with_reducible show Calls _ _ _ (World.alloc _ _) _; go_at_call 22; refine (HPT.out (World.alloc _ _) (ht.below (r1.new _).b)).mono ?_; rintro e cv2 ⟨rfl, hb⟩; have nb2 := (Bm.start r1 32 (.string ⟨#[]⟩) (.string ⟨#[]⟩) (.string ⟨#[]⟩) (.string ⟨#[]⟩)).below hb; clear hb r1; have cy0 := nb2.n.c0; have cy1 := nb2.n.c1; have cy2 := nb2.n.c2; have cy3 := nb2.n.c3; have cyf := nb2.n.f)
    | (have hchk := r1; clear hchk; go_at_call 22; refine (HPT.out (_) (ht.below r1.b)).mono ?_; rintro e cv2 ⟨rfl, hb⟩; have r2 := r1.below hb; clear hb r1)
    | (have hchk := nb1; clear hchk; go_at_call 22; refine (HPT.out _ (ht.below nb1.b.b)).mono ?_; rintro e cv2 ⟨rfl, hb⟩; have nb2 := nb1.below hb; clear hb nb1 cy0 cy1 cyf; have cy0 := nb2.n.c0; have cy1 := nb2.n.c1; have cy2 := nb2.n.c2; have cy3 := nb2.n.c3; have cyf := nb2.n.f)
    | (have hchk := r2; clear hchk; with_reducible show Calls _ _ _ (World.alloc _ _) _; go_at_call 21; refine (HSB.out (World.alloc _ _) (ht.below (r2.new _).b)).mono ?_; rintro e cv3 ⟨rfl, hb⟩; have nb3 := (Bm.start r2 32 (.string ⟨#[]⟩) (.string ⟨#[]⟩) (.string ⟨#[]⟩) (.string ⟨#[]⟩)).below hb; clear hb r2; have cy0 := nb3.n.c0; have cy1 := nb3.n.c1; have cy2 := nb3.n.c2; have cy3 := nb3.n.c3; have cyf := nb3.n.f)
    | (have hchk := r2; clear hchk; go_at_call 21; refine (HSB.out (_) (ht.below r2.b)).mono ?_; rintro e cv3 ⟨rfl, hb⟩; have r3 := r2.below hb; clear hb r2)
    | (have hchk := nb2; clear hchk; go_at_call 21; refine (HSB.out _ (ht.below nb2.b.b)).mono ?_; rintro e cv3 ⟨rfl, hb⟩; have nb3 := nb2.below hb; clear hb nb2 cy0 cy1 cyf; have cy0 := nb3.n.c0; have cy1 := nb3.n.c1; have cy2 := nb3.n.c2; have cy3 := nb3.n.c3; have cyf := nb3.n.f))
  all_goals
    first
      | exact REST11.out _ _ _ _ _ _ _ _ _ _ _ _ _ _ _ _ _ _ _ _ _ _ _ _ _ _ _ _ _ _ _ _ _ _ _ _ _ _ _ _ _ _ _ _ _ _ _ _ _ _ _ _ _ _ _ _ _ _ _ _ _ _ _ _ _ _ _ _ _ _ _ _ _ _ _ _ _ _ _ _ _ _ _ _ _ _ _ (nb3.put (.string x1) (.string x2) (.string x3) (.string x4))
      | exact REST11.out _ _ _ _ _ _ _ _ _ _ _ _ _ _ _ _ _ _ _ _ _ _ _ _ _ _ _ _ _ _ _ _ _ _ _ _ _ _ _ _ _ _ _ _ _ _ _ _ _ _ _ _ _ _ _ _ _ _ _ _ _ _ _ _ _ _ _ _ _ _ _ _ _ _ _ _ _ _ _ _ _ _ _ _ _ _ _ (r3.push4 32 (.string x1) (.string x2) (.string x3) (.string x4))
      | exact REST11.out _ _ _ _ _ _ _ _ _ _ _ _ _ _ _ _ _ _ _ _ _ _ _ _ _ _ _ _ _ _ _ _ _ _ _ _ _ _ _ _ _ _ _ _ _ _ _ _ _ _ _ _ _ _ _ _ _ _ _ _ _ _ _ _ _ _ _ _ _ _ _ _ _ _ _ _ _ _ _ _ _ _ _ _ _ _ _ ((Bm.start r3 32 (.string ⟨#[]⟩) (.string ⟨#[]⟩) (.string ⟨#[]⟩) (.string ⟨#[]⟩)).put (.string x1) (.string x2) (.string x3) (.string x4))
end Go.Proofs.YtppbhnhmaocdnaaGreatDoor
