/- enclosure.Within; law06: SpecialSymmetric, from what its calls answer. PRINTED by wip/gsy.py. -/
import Derived.Test.YtppbhnhmaocdnaaGreatDoorXWkFNorm2
set_option linter.unusedVariables false
set_option linter.unusedSimpArgs false
namespace Go.Proofs.YtppbhnhmaocdnaaGreatDoor
open Go.RowKit Go.Shelf

set_option maxRecDepth 100000 in
set_option maxHeartbeats 8000000 in
theorem within_in (n1 d1 n2 d2 n3 d3 n4 d4 : Int) (w : World) (h1 : IsI n1 d1 n2 d2) (h2 : IsI n3 d3 n4 d4) (ha : inQ n3 d3 n4 d4 n1 d1 = true) (hb : inQ n3 d3 n4 d4 n2 d2 = true) (ht : TabOf w) :
    Calls Tryz.prog 24 #[IV n1 d1 n2 d2, IV n3 d3 n4 d4] w (TruePost w) := by
  have HV := fun W h' => evalid_in n1 d1 n2 d2 W h1.1 h1.2.1 h'
  have HA := fun W h' => contains_in n3 d3 n4 d4 n1 d1 W h2.1 h2.2.1 h1.1 h2.2.2 h'
  have HB := fun W h' => contains_in n3 d3 n4 d4 n2 d2 W h2.1 h2.2.1 h1.2.1 h2.2.2 h'
  rw [decide_eq_true h1.2.2] at HV
  rw [ha] at HA
  rw [hb] at HB
  unfold IV at HV HA HB ⊢
  unfold RV at HA HB
  unfold TruePost
  clear h1 h2 ha hb
  generalize str n1 = a1 at *
  generalize str d1 = a2 at *
  generalize str n2 = a3 at *
  generalize str d2 = a4 at *
  generalize str n3 = b1 at *
  generalize str d3 = b2 at *
  generalize str n4 = b3 at *
  generalize str d4 = b4 at *
  replace HV := Lib.hid HV
  replace HA := Lib.hid HA
  replace HB := Lib.hid HB
  have x0 := (((Bc.nil w).push4 32 (.string a1) (.string a2) (.string a3) (.string a4)).push4 32 (.string b1) (.string b2) (.string b3) (.string b4))
  rw [sizeNew] at x0
  go_enter Tryz.func24, Tryz.ntmps24
  go_wp2_with (first
    | (have hchk := x0; clear hchk; go_at_call 67; refine (HV.out _ (ht.below x0.b)).mono ?_; rintro e w1 ⟨rfl, hb⟩; have g1 := x0.below hb; clear hb x0; have fa0 := g1.k (w.heap.size, 0, .string a1) (by simp); have fa1 := g1.k (w.heap.size, 1, .string a2) (by simp); have fa2 := g1.k (w.heap.size, 2, .string a3) (by simp); have fa3 := g1.k (w.heap.size, 3, .string a4) (by simp); have fa4 := g1.k (w.heap.size + 1, 0, .string b1) (by simp); have fa5 := g1.k (w.heap.size + 1, 1, .string b2) (by simp); have fa6 := g1.k (w.heap.size + 1, 2, .string b3) (by simp); have fa7 := g1.k (w.heap.size + 1, 3, .string b4) (by simp))
    | (have hchk := g1; clear hchk; go_at_call 32; refine (HA.out _ (ht.below g1.b)).mono ?_; rintro e w2 ⟨rfl, hb⟩; have g2 := g1.below hb; clear hb g1; have fb0 := g2.k (w.heap.size, 0, .string a1) (by simp); have fb1 := g2.k (w.heap.size, 1, .string a2) (by simp); have fb2 := g2.k (w.heap.size, 2, .string a3) (by simp); have fb3 := g2.k (w.heap.size, 3, .string a4) (by simp); have fb4 := g2.k (w.heap.size + 1, 0, .string b1) (by simp); have fb5 := g2.k (w.heap.size + 1, 1, .string b2) (by simp); have fb6 := g2.k (w.heap.size + 1, 2, .string b3) (by simp); have fb7 := g2.k (w.heap.size + 1, 3, .string b4) (by simp))
    | (go_at_call 32; refine (HB.out _ (ht.below g2.b)).mono ?_; rintro e w3 ⟨rfl, hb⟩; have g3 := g2.below hb; clear hb g2))
  refine bodyPost_ret_by (v := .bool true) (by simp [results, Tryz.f24, go_sem]) rfl ⟨rfl, g3.b⟩

set_option maxRecDepth 100000 in
set_option maxHeartbeats 20000000 in
theorem lsym_lt (w : World) (ht : TabOf w) (x0 x1 y0 y1 pl v n k0 k1 k2 : Int) (a1 a2 b1 b2 s0 s1 m1 m2 p1 p2 p3 p4 q1 q2 q3 q4 r1 r2 r3 r4 : ByteArray)
    (hw1 : IntKind.i64.wrap (1 + v) = n) (hk0 : decide (k0 < 0) = true) (hk1 : decide (0 < k1) = false) (hk2 : decide (0 < k2) = false)
    (hsa : ∀ W, TabOf W → Calls Tryz.prog 10 #[.agg #[.int .i64 x0, .int .i64 x1], .int .i64 9] W (OfPost a1 a2 W))
    (hsb : ∀ W, TabOf W → Calls Tryz.prog 10 #[.agg #[.int .i64 y0, .int .i64 y1], .int .i64 9] W (OfPost b1 b2 W))
    (hpk : ∀ W, Calls Tryz.prog 14 #[.int .i64 pl, .int .i64 12] W (IntPost v W))
    (ho0 : ∀ W, TabOf W → Calls Tryz.prog 12 #[.int .i64 0, .int .i64 1] W (OfPost s0 s1 W))
    (hrs : ∀ W, TabOf W → Calls Tryz.prog 15 #[.agg #[.string s0, .string s1], .agg #[.string a1, .string a2]] W (RPost m1 m2 W))
    (hna : ∀ W, TabOf W → Calls Tryz.prog 20 #[.agg #[.string a1, .string a2], .int .i64 n] W (AnsPost p1 p2 p3 p4 0 W))
    (hnm : ∀ W, TabOf W → Calls Tryz.prog 20 #[.agg #[.string m1, .string m2], .int .i64 n] W (AnsPost q1 q2 q3 q4 0 W))
    (hnb : ∀ W, TabOf W → Calls Tryz.prog 20 #[.agg #[.string b1, .string b2], .int .i64 n] W (AnsPost r1 r2 r3 r4 0 W))
    (ho1 : ∀ W, TabOf W → Calls Tryz.prog 12 #[.int .i64 1, .int .i64 1] W (OfPost s1 s1 W))
    (hpt : ∀ W, TabOf W → Calls Tryz.prog 22 #[.agg #[.string s1, .string s1]] W fun e w' => e = .returned (.agg #[.string s1, .string s1, .string s1, .string s1]) ∧ Below W.heap.size W w')
    (hes : ∀ W, TabOf W → Calls Tryz.prog 21 #[.agg #[.string s1, .string s1, .string s1, .string s1], .agg #[.string p1, .string p2, .string p3, .string p4]] W (AnsPost q1 q2 q3 q4 0 W))
    (hc0 : ∀ W, TabOf W → Calls Tryz.prog 17 #[.agg #[.string a1, .string a2], .agg #[.string b1, .string b2]] W (IntPost k0 W))
    (hc1 : ∀ W, TabOf W → Calls Tryz.prog 17 #[.agg #[.string p1, .string p2], .agg #[.string r1, .string r2]] W (IntPost k1 W))
    (hc2 : ∀ W, TabOf W → Calls Tryz.prog 17 #[.agg #[.string p3, .string p4], .agg #[.string r3, .string r4]] W (IntPost k2 W))
    (hwi : ∀ W, TabOf W → Calls Tryz.prog 24 #[.agg #[.string p1, .string p2, .string p3, .string p4], .agg #[.string s0, .string s1, .string s1, .string s1]] W (TruePost W)) :
    Calls Tryz.prog 6 #[.agg #[.int .i64 x0, .int .i64 x1], .agg #[.int .i64 y0, .int .i64 y1], .int .i64 pl] w (TruePost w) := by
  have hsane := fun W h => lsane_in W h
  unfold TruePost at hsane hwi
  unfold TruePost
  unfold IntPost at hpk hc0 hc1 hc2
  unfold OfPost at hsa hsb ho0 ho1
  unfold RPost at hrs
  unfold AnsPost at hna hnm hnb hes
  have HSA := Lib.hid hsane; clear hsane
  have HSMA := Lib.hid hsa; clear hsa
  have HSMB := Lib.hid hsb; clear hsb
  have HPK := Lib.hid hpk; clear hpk
  have HO0 := Lib.hid ho0; clear ho0
  have HRS := Lib.hid hrs; clear hrs
  have HNA := Lib.hid hna; clear hna
  have HNM := Lib.hid hnm; clear hnm
  have HNB := Lib.hid hnb; clear hnb
  have HO1 := Lib.hid ho1; clear ho1
  have HPT := Lib.hid hpt; clear hpt
  have HES := Lib.hid hes; clear hes
  have HC0 := Lib.hid hc0; clear hc0
  have HC1 := Lib.hid hc1; clear hc1
  have HC2 := Lib.hid hc2; clear hc2
  have HWI := Lib.hid hwi; clear hwi
  have x0' := (((Bc.nil w).push2 22 (.int .i64 x0) (.int .i64 x1)).push2 22 (.int .i64 y0) (.int .i64 y1))
  rw [sizeNew] at x0'
  go_enter Tryz.func6, Tryz.ntmps6
  go_wp2_with (first
    | (have hchk := x0'; clear hchk; go_at_call 9; refine (HSA.out _ (ht.below x0'.b)).mono ?_; rintro e w1 ⟨rfl, hb1⟩; have g1 := x0'.below hb1; clear hb1 x0'; have z0 := g1.k (w.heap.size, 0, .int .i64 x0) (by simp); have z1 := g1.k (w.heap.size, 1, .int .i64 x1) (by simp))
    | (have hchk := g1; clear hchk; go_at_call 10; refine (HSMA.out _ (ht.below g1.b)).mono ?_; rintro e w2 ⟨rfl, hb2⟩; have g2 := (g1.below hb2).push2 25 (.string a1) (.string a2); clear hb2 g1 z0 z1; have z0 := g2.k (w.heap.size + 1, 0, .int .i64 y0) (by simp); have z1 := g2.k (w.heap.size + 1, 1, .int .i64 y1) (by simp))
    | (have hchk := g2; clear hchk; go_at_call 10; refine (HSMB.out _ (ht.below g2.b)).mono ?_; rintro e w3 ⟨rfl, hb3⟩; have g3 := (g2.below hb3).push2 25 (.string b1) (.string b2); clear hb3 g2 z0 z1)
    | (go_at_call 14; refine (HPK.out _).mono ?_; rintro e w4 ⟨rfl, hb4⟩; have g4 := g3.below hb4; clear hb4 g3))
  have g4' := g4.sub (l' := [(w2.heap.size, 0, .string a1), (w2.heap.size, 1, .string a2), (w3.heap.size, 0, .string b1), (w3.heap.size, 1, .string b2)]) (by simp)
  clear g4
  rename_i K5 hK5
  have REST5 : ∀ (u13 u14 u15 u16 u17 u18 u19 u20 u21 u22 u23 u24 u25 u26 u27 u28 u29 u30 u31 u32 u33 u34 u35 u36 u37 u38 u39 u40 u41 u42 u43 u44 u45 u46 u47 u48 u49 u50 u51 u52 u53 u54 u55 u56 u57 u58 u59 u60 u61 u62 u63 u64 u65 u66 u67 u68 u69 u70 u71 u72 u73 u74 u75 u76 u77 u78 u79 u80 u81 u82 u83 u84 u85 u86 u87 u88 u89 u90 u91 u92 u93 u94 u95 u96 u97 u98 u99 u100 u101 u102 u103 u104 u105 u106 u107 u108 u109 u110 u111 u112 : Value) (R11 : Nat) (F5 : World), Bc w ([(w2.heap.size, 0, .string a1), (w2.heap.size, 1, .string a2), (w3.heap.size, 0, .string b1), (w3.heap.size, 1, .string b2)] ++ [(R11, 0, .string m1), (R11, 1, .string m2)]) F5 → K5 { tmps := #[.agg #[.int .i64 x0, .int .i64 x1], .agg #[.int .i64 y0, .int .i64 y1], .int .i64 pl, .pointer (some ⟨w.heap.size, 0, none⟩), .pointer (some ⟨w.heap.size + 1, 0, none⟩), undef, .bool false, .bool true, .pointer (some ⟨w2.heap.size, 0, none⟩), .pointer (some ⟨w3.heap.size, 0, none⟩), .int .i64 n, .pointer (some ⟨R11, 0, none⟩), .int .i64 0, u13, u14, u15, u16, u17, u18, u19, u20, u21, u22, u23, u24, u25, u26, u27, u28, u29, u30, u31, u32, u33, u34, u35, u36, u37, u38, u39, u40, u41, u42, u43, u44, u45, u46, u47, u48, u49, u50, u51, u52, u53, u54, u55, u56, u57, u58, u59, u60, u61, u62, u63, u64, u65, u66, u67, u68, u69, u70, u71, u72, u73, u74, u75, u76, u77, u78, u79, u80, u81, u82, u83, u84, u85, u86, u87, u88, u89, u90, u91, u92, u93, u94, u95, u96, u97, u98, u99, u100, u101, u102, u103, u104, u105, u106, u107, u108, u109, u110, u111, u112], defers := [] } F5 := by
    intro u13 u14 u15 u16 u17 u18 u19 u20 u21 u22 u23 u24 u25 u26 u27 u28 u29 u30 u31 u32 u33 u34 u35 u36 u37 u38 u39 u40 u41 u42 u43 u44 u45 u46 u47 u48 u49 u50 u51 u52 u53 u54 u55 u56 u57 u58 u59 u60 u61 u62 u63 u64 u65 u66 u67 u68 u69 u70 u71 u72 u73 u74 u75 u76 u77 u78 u79 u80 u81 u82 u83 u84 u85 u86 u87 u88 u89 u90 u91 u92 u93 u94 u95 u96 u97 u98 u99 u100 u101 u102 u103 u104 u105 u106 u107 u108 u109 u110 u111 u112 R11 F5 gin
    have g5 := gin.sub (l' := [(w2.heap.size, 0, .string a1), (w2.heap.size, 1, .string a2), (w3.heap.size, 0, .string b1), (w3.heap.size, 1, .string b2), (R11, 0, .string m1), (R11, 1, .string m2)]) (by simp)
    clear gin g4'
    refine hK5 _ _ ?_
    clear hK5
    have z0 : F5.cell? ⟨w2.heap.size, 0, none⟩ = some (.string a1) := g5.k (_, _, _) (by simp)
    have z1 : F5.cell? ⟨w2.heap.size, 1, none⟩ = some (.string a2) := g5.k (_, _, _) (by simp)
    go_wp2_with (first
      | (have hchk := g5; clear hchk; go_at_call 20; refine (HNA.out _ (ht.below g5.b)).mono ?_; rintro e w6 ⟨rfl, hb⟩; have g6 := (g5.below hb).push4 32 (.string p1) (.string p2) (.string p3) (.string p4); clear hb g5 z0 z1; have z0 := g6.k (R11, 0, .string m1) (by simp); have z1 := g6.k (R11, 1, .string m2) (by simp))
      | (have hchk := g6; clear hchk; go_at_call 20; refine (HNM.out _ (ht.below g6.b)).mono ?_; rintro e w7 ⟨rfl, hb⟩; have g7 := (g6.below hb).push4 32 (.string q1) (.string q2) (.string q3) (.string q4); clear hb g6 z0 z1; have z0 := g7.k (w3.heap.size, 0, .string b1) (by simp); have z1 := g7.k (w3.heap.size, 1, .string b2) (by simp))
      | (have hchk := g7; clear hchk; go_at_call 20; refine (HNB.out _ (ht.below g7.b)).mono ?_; rintro e w8 ⟨rfl, hb⟩; have g8 := (g7.below hb).push4 32 (.string r1) (.string r2) (.string r3) (.string r4); clear hb g7 z0 z1)
      | (have hchk := g8; clear hchk; go_at_call 12; refine (HO1.out _ (ht.below g8.b)).mono ?_; rintro e w9 ⟨rfl, hb⟩; have g9 := g8.below hb; clear hb g8)
      | (have hchk := g9; clear hchk; go_at_call 22; refine (HPT.out _ (ht.below g9.b)).mono ?_; rintro e w10 ⟨rfl, hb⟩; have g10 := (g9.below hb).push4 32 (.string s1) (.string s1) (.string s1) (.string s1); clear hb g9; have z0 := g10.k (w6.heap.size, 0, .string p1) (by simp); have z1 := g10.k (w6.heap.size, 1, .string p2) (by simp); have z2 := g10.k (w6.heap.size, 2, .string p3) (by simp); have z3 := g10.k (w6.heap.size, 3, .string p4) (by simp))
      | (have hchk := g10; clear hchk; go_at_call 21; refine (HES.out _ (ht.below g10.b)).mono ?_; rintro e w11 ⟨rfl, hb⟩; have g11 := (g10.below hb).push4 32 (.string q1) (.string q2) (.string q3) (.string q4); clear hb g10 z0 z1 z2 z3; have z0 := g11.k (w7.heap.size, 0, .string q1) (by simp); have z1 := g11.k (w7.heap.size, 1, .string q2) (by simp); have z2 := g11.k (w7.heap.size, 2, .string q3) (by simp); have z3 := g11.k (w7.heap.size, 3, .string q4) (by simp); have z4 := g11.k (w2.heap.size, 0, .string a1) (by simp); have z5 := g11.k (w2.heap.size, 1, .string a2) (by simp); have z6 := g11.k (w3.heap.size, 0, .string b1) (by simp); have z7 := g11.k (w3.heap.size, 1, .string b2) (by simp))
      | (have hchk := g11; clear hchk; go_at_call 17; refine (HC0.out _ (ht.below g11.b)).mono ?_; rintro e w12 ⟨rfl, hb⟩; have g12 := g11.below hb; clear hb g11 z0 z1 z2 z3 z4 z5 z6 z7; have z0 := g12.k (w6.heap.size, 0, .string p1) (by simp); have z1 := g12.k (w6.heap.size, 1, .string p2) (by simp); have z2 := g12.k (w8.heap.size, 0, .string r1) (by simp); have z3 := g12.k (w8.heap.size, 1, .string r2) (by simp))
      | (have hchk := g12; clear hchk; go_at_call 17; refine (HC1.out _ (ht.below g12.b)).mono ?_; rintro e w13 ⟨rfl, hb⟩; have g13 := g12.below hb; clear hb g12 z0 z1 z2 z3; have z0 := g13.k (w6.heap.size, 2, .string p3) (by simp); have z1 := g13.k (w6.heap.size, 3, .string p4) (by simp); have z2 := g13.k (w8.heap.size, 2, .string r3) (by simp); have z3 := g13.k (w8.heap.size, 3, .string r4) (by simp))
      | (go_at_call 17; refine (HC2.out _ (ht.below g13.b)).mono ?_; rintro e w14 ⟨rfl, hb⟩; have g14 := g13.below hb; clear hb g13 z0 z1 z2 z3))
    have S15 : ∀ W, Bc w ([(w6.heap.size, 0, .string p1), (w6.heap.size, 1, .string p2), (w6.heap.size, 2, .string p3), (w6.heap.size, 3, .string p4)]) W → (W.cell? ⟨w6.heap.size, 0, none⟩ = some (.string p1) ∧ W.cell? ⟨w6.heap.size, 1, none⟩ = some (.string p2) ∧ W.cell? ⟨w6.heap.size, 2, none⟩ = some (.string p3) ∧ W.cell? ⟨w6.heap.size, 3, none⟩ = some (.string p4)) := fun W h => ⟨h.k (_, _, _) (by simp), h.k (_, _, _) (by simp), h.k (_, _, _) (by simp), h.k (_, _, _) (by simp)⟩
    replace S15 := Lib.hid S15
    have r0 := (g14.sub (l' := [(w6.heap.size, 0, .string p1), (w6.heap.size, 1, .string p2), (w6.heap.size, 2, .string p3), (w6.heap.size, 3, .string p4)]) (by simp)).drew
    clear g14
    go_region_held3 (fun W => W.cell? ⟨w6.heap.size, 0, none⟩ = some (.string p1) ∧ W.cell? ⟨w6.heap.size, 1, none⟩ = some (.string p2) ∧ W.cell? ⟨w6.heap.size, 2, none⟩ = some (.string p3) ∧ W.cell? ⟨w6.heap.size, 3, none⟩ = some (.string p4))
      (first
        | with_reducible exact S15.out _ r0
        | with_reducible exact S15.out _ rr1
        | with_reducible exact S15.out _ rr2
        | with_reducible exact S15.out _ rr3) (first
      | (have hchk := r0; clear hchk; go_at_call 12; refine (HO0.out (World.drew _) (ht.below r0.b)).mono ?_; rintro e cv1 ⟨rfl, hb⟩; have rr1 := r0.below hb; clear hb r0)
      | (have hchk := rr1; clear hchk; go_at_call 12; refine (HO1.out _ (ht.below rr1.b)).mono ?_; rintro e cv2 ⟨rfl, hb⟩; have rr2 := rr1.below hb; clear hb rr1)
      | (have hchk := rr2; clear hchk; go_at_call 24; refine (HWI.out _ (ht.below rr2.b)).mono ?_; rintro e cv3 ⟨rfl, hb⟩; have rr3 := rr2.below hb; clear hb rr2))
    all_goals
      go_wp2
      refine bodyPost_ret_by (v := .bool true) (by simp [results, Tryz.f6, go_sem]) rfl ⟨rfl, rr3.b⟩
  clear hK5
  replace REST5 := Lib.hid REST5
  have S5 : ∀ W, Bc w ([(w2.heap.size, 0, .string a1), (w2.heap.size, 1, .string a2), (w3.heap.size, 0, .string b1), (w3.heap.size, 1, .string b2)]) W → (W.cell? ⟨w2.heap.size, 0, none⟩ = some (.string a1) ∧ W.cell? ⟨w2.heap.size, 1, none⟩ = some (.string a2)) := fun W h => ⟨h.k (_, _, _) (by simp), h.k (_, _, _) (by simp)⟩
  replace S5 := Lib.hid S5
  have rr := g4'
  have r0 := rr.drew
  clear g4'
  go_region_held3 (fun W => W.cell? ⟨w2.heap.size, 0, none⟩ = some (.string a1) ∧ W.cell? ⟨w2.heap.size, 1, none⟩ = some (.string a2))
    (first
      | with_reducible exact S5.out _ r0
      | with_reducible exact S5.out _ r1
      | with_reducible exact S5.out _ r2
      | with_reducible exact S5.out _ nb1.b
      | with_reducible exact S5.out _ nb2.b
      | with_reducible exact S5.out _ (rr.new _).drew
      | with_reducible exact S5.out _ (r1.new _)
      | with_reducible exact S5.out _ (r2.new _)
      | exact S5.out _ (nb1.put _ _).left
      | exact S5.out _ (nb2.put _ _).left
      | exact S5.out _ ((Bn.start r1 _ _ _).put _ _).left
      | exact S5.out _ ((Bn.start r2 _ _ _).put _ _).left) (first
    | (have hchk := r0; clear hchk; with_reducible show Calls _ _ _ (World.drew (World.alloc _ _)) _; go_at_call 12; refine (HO0.out (World.drew (World.alloc _ _)) (ht.below (rr.new _).drew.b)).mono ?_; rintro e cv1 ⟨rfl, hb⟩; have nb1 := (Bn.start rr 25 (.string ⟨#[]⟩) (.string ⟨#[]⟩)).drew.below hb; clear hb r0; have cy0 := nb1.n.c00; have cy1 := nb1.n.c01; have cyf := nb1.n.f0)
    | (have hchk := r0; clear hchk; go_at_call 12; refine (HO0.out (World.drew _) (ht.below r0.b)).mono ?_; rintro e cv1 ⟨rfl, hb⟩; have r1 := r0.below hb; clear hb r0)
    | (have hchk := r1; clear hchk; with_reducible show Calls _ _ _ (World.alloc _ _) _; go_at_call 15; refine (HRS.out (World.alloc _ _) (ht.below (r1.new _).b)).mono ?_; rintro e cv2 ⟨rfl, hb⟩; have nb2 := (Bn.start r1 25 (.string ⟨#[]⟩) (.string ⟨#[]⟩)).below hb; clear hb r1; have cy0 := nb2.n.c00; have cy1 := nb2.n.c01; have cyf := nb2.n.f0)
    | (have hchk := r1; clear hchk; go_at_call 15; refine (HRS.out (_) (ht.below r1.b)).mono ?_; rintro e cv2 ⟨rfl, hb⟩; have r2 := r1.below hb; clear hb r1)
    | (have hchk := nb1; clear hchk; go_at_call 15; refine (HRS.out _ (ht.below nb1.b.b)).mono ?_; rintro e cv2 ⟨rfl, hb⟩; have nb2 := nb1.below hb; clear hb nb1 cy0 cy1 cyf; have cy0 := nb2.n.c00; have cy1 := nb2.n.c01; have cyf := nb2.n.f0))
  all_goals
    first
      | exact REST5.out _ _ _ _ _ _ _ _ _ _ _ _ _ _ _ _ _ _ _ _ _ _ _ _ _ _ _ _ _ _ _ _ _ _ _ _ _ _ _ _ _ _ _ _ _ _ _ _ _ _ _ _ _ _ _ _ _ _ _ _ _ _ _ _ _ _ _ _ _ _ _ _ _ _ _ _ _ _ _ _ _ _ _ _ _ _ _ _ _ _ _ _ _ _ _ _ _ _ _ _ _ _ (nb2.put (.string m1) (.string m2))
      | exact REST5.out _ _ _ _ _ _ _ _ _ _ _ _ _ _ _ _ _ _ _ _ _ _ _ _ _ _ _ _ _ _ _ _ _ _ _ _ _ _ _ _ _ _ _ _ _ _ _ _ _ _ _ _ _ _ _ _ _ _ _ _ _ _ _ _ _ _ _ _ _ _ _ _ _ _ _ _ _ _ _ _ _ _ _ _ _ _ _ _ _ _ _ _ _ _ _ _ _ _ _ _ _ _ (r2.push2 25 (.string m1) (.string m2))
      | exact REST5.out _ _ _ _ _ _ _ _ _ _ _ _ _ _ _ _ _ _ _ _ _ _ _ _ _ _ _ _ _ _ _ _ _ _ _ _ _ _ _ _ _ _ _ _ _ _ _ _ _ _ _ _ _ _ _ _ _ _ _ _ _ _ _ _ _ _ _ _ _ _ _ _ _ _ _ _ _ _ _ _ _ _ _ _ _ _ _ _ _ _ _ _ _ _ _ _ _ _ _ _ _ _ ((Bn.start r2 25 (.string ⟨#[]⟩) (.string ⟨#[]⟩)).put (.string m1) (.string m2))

set_option maxRecDepth 100000 in
set_option maxHeartbeats 20000000 in
theorem lsym_ge (w : World) (ht : TabOf w) (x0 x1 y0 y1 pl v n k0 : Int) (a1 a2 b1 b2 s0 s1 m1 m2 p1 p2 p3 p4 q1 q2 q3 q4 r1 r2 r3 r4 : ByteArray)
    (hw1 : IntKind.i64.wrap (1 + v) = n) (hk0 : decide (k0 < 0) = false)
    (hsa : ∀ W, TabOf W → Calls Tryz.prog 10 #[.agg #[.int .i64 x0, .int .i64 x1], .int .i64 9] W (OfPost a1 a2 W))
    (hsb : ∀ W, TabOf W → Calls Tryz.prog 10 #[.agg #[.int .i64 y0, .int .i64 y1], .int .i64 9] W (OfPost b1 b2 W))
    (hpk : ∀ W, Calls Tryz.prog 14 #[.int .i64 pl, .int .i64 12] W (IntPost v W))
    (ho0 : ∀ W, TabOf W → Calls Tryz.prog 12 #[.int .i64 0, .int .i64 1] W (OfPost s0 s1 W))
    (hrs : ∀ W, TabOf W → Calls Tryz.prog 15 #[.agg #[.string s0, .string s1], .agg #[.string a1, .string a2]] W (RPost m1 m2 W))
    (hna : ∀ W, TabOf W → Calls Tryz.prog 20 #[.agg #[.string a1, .string a2], .int .i64 n] W (AnsPost p1 p2 p3 p4 0 W))
    (hnm : ∀ W, TabOf W → Calls Tryz.prog 20 #[.agg #[.string m1, .string m2], .int .i64 n] W (AnsPost q1 q2 q3 q4 0 W))
    (hnb : ∀ W, TabOf W → Calls Tryz.prog 20 #[.agg #[.string b1, .string b2], .int .i64 n] W (AnsPost r1 r2 r3 r4 0 W))
    (ho1 : ∀ W, TabOf W → Calls Tryz.prog 12 #[.int .i64 1, .int .i64 1] W (OfPost s1 s1 W))
    (hpt : ∀ W, TabOf W → Calls Tryz.prog 22 #[.agg #[.string s1, .string s1]] W fun e w' => e = .returned (.agg #[.string s1, .string s1, .string s1, .string s1]) ∧ Below W.heap.size W w')
    (hes : ∀ W, TabOf W → Calls Tryz.prog 21 #[.agg #[.string s1, .string s1, .string s1, .string s1], .agg #[.string p1, .string p2, .string p3, .string p4]] W (AnsPost q1 q2 q3 q4 0 W))
    (hc0 : ∀ W, TabOf W → Calls Tryz.prog 17 #[.agg #[.string a1, .string a2], .agg #[.string b1, .string b2]] W (IntPost k0 W))
    (hwi : ∀ W, TabOf W → Calls Tryz.prog 24 #[.agg #[.string p1, .string p2, .string p3, .string p4], .agg #[.string s0, .string s1, .string s1, .string s1]] W (TruePost W)) :
    Calls Tryz.prog 6 #[.agg #[.int .i64 x0, .int .i64 x1], .agg #[.int .i64 y0, .int .i64 y1], .int .i64 pl] w (TruePost w) := by
  have hsane := fun W h => lsane_in W h
  unfold TruePost at hsane hwi
  unfold TruePost
  unfold IntPost at hpk hc0
  unfold OfPost at hsa hsb ho0 ho1
  unfold RPost at hrs
  unfold AnsPost at hna hnm hnb hes
  have HSA := Lib.hid hsane; clear hsane
  have HSMA := Lib.hid hsa; clear hsa
  have HSMB := Lib.hid hsb; clear hsb
  have HPK := Lib.hid hpk; clear hpk
  have HO0 := Lib.hid ho0; clear ho0
  have HRS := Lib.hid hrs; clear hrs
  have HNA := Lib.hid hna; clear hna
  have HNM := Lib.hid hnm; clear hnm
  have HNB := Lib.hid hnb; clear hnb
  have HO1 := Lib.hid ho1; clear ho1
  have HPT := Lib.hid hpt; clear hpt
  have HES := Lib.hid hes; clear hes
  have HC0 := Lib.hid hc0; clear hc0
  have HWI := Lib.hid hwi; clear hwi
  have x0' := (((Bc.nil w).push2 22 (.int .i64 x0) (.int .i64 x1)).push2 22 (.int .i64 y0) (.int .i64 y1))
  rw [sizeNew] at x0'
  go_enter Tryz.func6, Tryz.ntmps6
  go_wp2_with (first
    | (have hchk := x0'; clear hchk; go_at_call 9; refine (HSA.out _ (ht.below x0'.b)).mono ?_; rintro e w1 ⟨rfl, hb1⟩; have g1 := x0'.below hb1; clear hb1 x0'; have z0 := g1.k (w.heap.size, 0, .int .i64 x0) (by simp); have z1 := g1.k (w.heap.size, 1, .int .i64 x1) (by simp))
    | (have hchk := g1; clear hchk; go_at_call 10; refine (HSMA.out _ (ht.below g1.b)).mono ?_; rintro e w2 ⟨rfl, hb2⟩; have g2 := (g1.below hb2).push2 25 (.string a1) (.string a2); clear hb2 g1 z0 z1; have z0 := g2.k (w.heap.size + 1, 0, .int .i64 y0) (by simp); have z1 := g2.k (w.heap.size + 1, 1, .int .i64 y1) (by simp))
    | (have hchk := g2; clear hchk; go_at_call 10; refine (HSMB.out _ (ht.below g2.b)).mono ?_; rintro e w3 ⟨rfl, hb3⟩; have g3 := (g2.below hb3).push2 25 (.string b1) (.string b2); clear hb3 g2 z0 z1)
    | (go_at_call 14; refine (HPK.out _).mono ?_; rintro e w4 ⟨rfl, hb4⟩; have g4 := g3.below hb4; clear hb4 g3))
  have g4' := g4.sub (l' := [(w2.heap.size, 0, .string a1), (w2.heap.size, 1, .string a2), (w3.heap.size, 0, .string b1), (w3.heap.size, 1, .string b2)]) (by simp)
  clear g4
  rename_i K5 hK5
  have REST5 : ∀ (u13 u14 u15 u16 u17 u18 u19 u20 u21 u22 u23 u24 u25 u26 u27 u28 u29 u30 u31 u32 u33 u34 u35 u36 u37 u38 u39 u40 u41 u42 u43 u44 u45 u46 u47 u48 u49 u50 u51 u52 u53 u54 u55 u56 u57 u58 u59 u60 u61 u62 u63 u64 u65 u66 u67 u68 u69 u70 u71 u72 u73 u74 u75 u76 u77 u78 u79 u80 u81 u82 u83 u84 u85 u86 u87 u88 u89 u90 u91 u92 u93 u94 u95 u96 u97 u98 u99 u100 u101 u102 u103 u104 u105 u106 u107 u108 u109 u110 u111 u112 : Value) (R11 : Nat) (F5 : World), Bc w ([(w2.heap.size, 0, .string a1), (w2.heap.size, 1, .string a2), (w3.heap.size, 0, .string b1), (w3.heap.size, 1, .string b2)] ++ [(R11, 0, .string m1), (R11, 1, .string m2)]) F5 → K5 { tmps := #[.agg #[.int .i64 x0, .int .i64 x1], .agg #[.int .i64 y0, .int .i64 y1], .int .i64 pl, .pointer (some ⟨w.heap.size, 0, none⟩), .pointer (some ⟨w.heap.size + 1, 0, none⟩), undef, .bool false, .bool true, .pointer (some ⟨w2.heap.size, 0, none⟩), .pointer (some ⟨w3.heap.size, 0, none⟩), .int .i64 n, .pointer (some ⟨R11, 0, none⟩), .int .i64 0, u13, u14, u15, u16, u17, u18, u19, u20, u21, u22, u23, u24, u25, u26, u27, u28, u29, u30, u31, u32, u33, u34, u35, u36, u37, u38, u39, u40, u41, u42, u43, u44, u45, u46, u47, u48, u49, u50, u51, u52, u53, u54, u55, u56, u57, u58, u59, u60, u61, u62, u63, u64, u65, u66, u67, u68, u69, u70, u71, u72, u73, u74, u75, u76, u77, u78, u79, u80, u81, u82, u83, u84, u85, u86, u87, u88, u89, u90, u91, u92, u93, u94, u95, u96, u97, u98, u99, u100, u101, u102, u103, u104, u105, u106, u107, u108, u109, u110, u111, u112], defers := [] } F5 := by
    intro u13 u14 u15 u16 u17 u18 u19 u20 u21 u22 u23 u24 u25 u26 u27 u28 u29 u30 u31 u32 u33 u34 u35 u36 u37 u38 u39 u40 u41 u42 u43 u44 u45 u46 u47 u48 u49 u50 u51 u52 u53 u54 u55 u56 u57 u58 u59 u60 u61 u62 u63 u64 u65 u66 u67 u68 u69 u70 u71 u72 u73 u74 u75 u76 u77 u78 u79 u80 u81 u82 u83 u84 u85 u86 u87 u88 u89 u90 u91 u92 u93 u94 u95 u96 u97 u98 u99 u100 u101 u102 u103 u104 u105 u106 u107 u108 u109 u110 u111 u112 R11 F5 gin
    have g5 := gin.sub (l' := [(w2.heap.size, 0, .string a1), (w2.heap.size, 1, .string a2), (w3.heap.size, 0, .string b1), (w3.heap.size, 1, .string b2), (R11, 0, .string m1), (R11, 1, .string m2)]) (by simp)
    clear gin g4'
    refine hK5 _ _ ?_
    clear hK5
    have z0 : F5.cell? ⟨w2.heap.size, 0, none⟩ = some (.string a1) := g5.k (_, _, _) (by simp)
    have z1 : F5.cell? ⟨w2.heap.size, 1, none⟩ = some (.string a2) := g5.k (_, _, _) (by simp)
    go_wp2_with (first
      | (have hchk := g5; clear hchk; go_at_call 20; refine (HNA.out _ (ht.below g5.b)).mono ?_; rintro e w6 ⟨rfl, hb⟩; have g6 := (g5.below hb).push4 32 (.string p1) (.string p2) (.string p3) (.string p4); clear hb g5 z0 z1; have z0 := g6.k (R11, 0, .string m1) (by simp); have z1 := g6.k (R11, 1, .string m2) (by simp))
      | (have hchk := g6; clear hchk; go_at_call 20; refine (HNM.out _ (ht.below g6.b)).mono ?_; rintro e w7 ⟨rfl, hb⟩; have g7 := (g6.below hb).push4 32 (.string q1) (.string q2) (.string q3) (.string q4); clear hb g6 z0 z1; have z0 := g7.k (w3.heap.size, 0, .string b1) (by simp); have z1 := g7.k (w3.heap.size, 1, .string b2) (by simp))
      | (have hchk := g7; clear hchk; go_at_call 20; refine (HNB.out _ (ht.below g7.b)).mono ?_; rintro e w8 ⟨rfl, hb⟩; have g8 := (g7.below hb).push4 32 (.string r1) (.string r2) (.string r3) (.string r4); clear hb g7 z0 z1)
      | (have hchk := g8; clear hchk; go_at_call 12; refine (HO1.out _ (ht.below g8.b)).mono ?_; rintro e w9 ⟨rfl, hb⟩; have g9 := g8.below hb; clear hb g8)
      | (have hchk := g9; clear hchk; go_at_call 22; refine (HPT.out _ (ht.below g9.b)).mono ?_; rintro e w10 ⟨rfl, hb⟩; have g10 := (g9.below hb).push4 32 (.string s1) (.string s1) (.string s1) (.string s1); clear hb g9; have z0 := g10.k (w6.heap.size, 0, .string p1) (by simp); have z1 := g10.k (w6.heap.size, 1, .string p2) (by simp); have z2 := g10.k (w6.heap.size, 2, .string p3) (by simp); have z3 := g10.k (w6.heap.size, 3, .string p4) (by simp))
      | (have hchk := g10; clear hchk; go_at_call 21; refine (HES.out _ (ht.below g10.b)).mono ?_; rintro e w11 ⟨rfl, hb⟩; have g11 := (g10.below hb).push4 32 (.string q1) (.string q2) (.string q3) (.string q4); clear hb g10 z0 z1 z2 z3; have z0 := g11.k (w7.heap.size, 0, .string q1) (by simp); have z1 := g11.k (w7.heap.size, 1, .string q2) (by simp); have z2 := g11.k (w7.heap.size, 2, .string q3) (by simp); have z3 := g11.k (w7.heap.size, 3, .string q4) (by simp); have z4 := g11.k (w2.heap.size, 0, .string a1) (by simp); have z5 := g11.k (w2.heap.size, 1, .string a2) (by simp); have z6 := g11.k (w3.heap.size, 0, .string b1) (by simp); have z7 := g11.k (w3.heap.size, 1, .string b2) (by simp))
      | (have hchk := g11; clear hchk; go_at_call 17; refine (HC0.out _ (ht.below g11.b)).mono ?_; rintro e w12 ⟨rfl, hb⟩; have g12 := g11.below hb; clear hb g11 z0 z1 z2 z3 z4 z5 z6 z7))
    have S15 : ∀ W, Bc w ([(w6.heap.size, 0, .string p1), (w6.heap.size, 1, .string p2), (w6.heap.size, 2, .string p3), (w6.heap.size, 3, .string p4)]) W → (W.cell? ⟨w6.heap.size, 0, none⟩ = some (.string p1) ∧ W.cell? ⟨w6.heap.size, 1, none⟩ = some (.string p2) ∧ W.cell? ⟨w6.heap.size, 2, none⟩ = some (.string p3) ∧ W.cell? ⟨w6.heap.size, 3, none⟩ = some (.string p4)) := fun W h => ⟨h.k (_, _, _) (by simp), h.k (_, _, _) (by simp), h.k (_, _, _) (by simp), h.k (_, _, _) (by simp)⟩
    replace S15 := Lib.hid S15
    have r0 := (g12.sub (l' := [(w6.heap.size, 0, .string p1), (w6.heap.size, 1, .string p2), (w6.heap.size, 2, .string p3), (w6.heap.size, 3, .string p4)]) (by simp)).drew
    clear g12
    go_region_held3 (fun W => W.cell? ⟨w6.heap.size, 0, none⟩ = some (.string p1) ∧ W.cell? ⟨w6.heap.size, 1, none⟩ = some (.string p2) ∧ W.cell? ⟨w6.heap.size, 2, none⟩ = some (.string p3) ∧ W.cell? ⟨w6.heap.size, 3, none⟩ = some (.string p4))
      (first
        | with_reducible exact S15.out _ r0
        | with_reducible exact S15.out _ rr1
        | with_reducible exact S15.out _ rr2
        | with_reducible exact S15.out _ rr3) (first
      | (have hchk := r0; clear hchk; go_at_call 12; refine (HO0.out (World.drew _) (ht.below r0.b)).mono ?_; rintro e cv1 ⟨rfl, hb⟩; have rr1 := r0.below hb; clear hb r0)
      | (have hchk := rr1; clear hchk; go_at_call 12; refine (HO1.out _ (ht.below rr1.b)).mono ?_; rintro e cv2 ⟨rfl, hb⟩; have rr2 := rr1.below hb; clear hb rr1)
      | (have hchk := rr2; clear hchk; go_at_call 24; refine (HWI.out _ (ht.below rr2.b)).mono ?_; rintro e cv3 ⟨rfl, hb⟩; have rr3 := rr2.below hb; clear hb rr2))
    all_goals
      go_wp2
      refine bodyPost_ret_by (v := .bool true) (by simp [results, Tryz.f6, go_sem]) rfl ⟨rfl, rr3.b⟩
  clear hK5
  replace REST5 := Lib.hid REST5
  have S5 : ∀ W, Bc w ([(w2.heap.size, 0, .string a1), (w2.heap.size, 1, .string a2), (w3.heap.size, 0, .string b1), (w3.heap.size, 1, .string b2)]) W → (W.cell? ⟨w2.heap.size, 0, none⟩ = some (.string a1) ∧ W.cell? ⟨w2.heap.size, 1, none⟩ = some (.string a2)) := fun W h => ⟨h.k (_, _, _) (by simp), h.k (_, _, _) (by simp)⟩
  replace S5 := Lib.hid S5
  have rr := g4'
  have r0 := rr.drew
  clear g4'
  go_region_held3 (fun W => W.cell? ⟨w2.heap.size, 0, none⟩ = some (.string a1) ∧ W.cell? ⟨w2.heap.size, 1, none⟩ = some (.string a2))
    (first
      | with_reducible exact S5.out _ r0
      | with_reducible exact S5.out _ r1
      | with_reducible exact S5.out _ r2
      | with_reducible exact S5.out _ nb1.b
      | with_reducible exact S5.out _ nb2.b
      | with_reducible exact S5.out _ (rr.new _).drew
      | with_reducible exact S5.out _ (r1.new _)
      | with_reducible exact S5.out _ (r2.new _)
      | exact S5.out _ (nb1.put _ _).left
      | exact S5.out _ (nb2.put _ _).left
      | exact S5.out _ ((Bn.start r1 _ _ _).put _ _).left
      | exact S5.out _ ((Bn.start r2 _ _ _).put _ _).left) (first
    | (have hchk := r0; clear hchk; with_reducible show Calls _ _ _ (World.drew (World.alloc _ _)) _; go_at_call 12; refine (HO0.out (World.drew (World.alloc _ _)) (ht.below (rr.new _).drew.b)).mono ?_; rintro e cv1 ⟨rfl, hb⟩; have nb1 := (Bn.start rr 25 (.string ⟨#[]⟩) (.string ⟨#[]⟩)).drew.below hb; clear hb r0; have cy0 := nb1.n.c00; have cy1 := nb1.n.c01; have cyf := nb1.n.f0)
    | (have hchk := r0; clear hchk; go_at_call 12; refine (HO0.out (World.drew _) (ht.below r0.b)).mono ?_; rintro e cv1 ⟨rfl, hb⟩; have r1 := r0.below hb; clear hb r0)
    | (have hchk := r1; clear hchk; with_reducible show Calls _ _ _ (World.alloc _ _) _; go_at_call 15; refine (HRS.out (World.alloc _ _) (ht.below (r1.new _).b)).mono ?_; rintro e cv2 ⟨rfl, hb⟩; have nb2 := (Bn.start r1 25 (.string ⟨#[]⟩) (.string ⟨#[]⟩)).below hb; clear hb r1; have cy0 := nb2.n.c00; have cy1 := nb2.n.c01; have cyf := nb2.n.f0)
    | (have hchk := r1; clear hchk; go_at_call 15; refine (HRS.out (_) (ht.below r1.b)).mono ?_; rintro e cv2 ⟨rfl, hb⟩; have r2 := r1.below hb; clear hb r1)
    | (have hchk := nb1; clear hchk; go_at_call 15; refine (HRS.out _ (ht.below nb1.b.b)).mono ?_; rintro e cv2 ⟨rfl, hb⟩; have nb2 := nb1.below hb; clear hb nb1 cy0 cy1 cyf; have cy0 := nb2.n.c00; have cy1 := nb2.n.c01; have cyf := nb2.n.f0))
  all_goals
    first
      | exact REST5.out _ _ _ _ _ _ _ _ _ _ _ _ _ _ _ _ _ _ _ _ _ _ _ _ _ _ _ _ _ _ _ _ _ _ _ _ _ _ _ _ _ _ _ _ _ _ _ _ _ _ _ _ _ _ _ _ _ _ _ _ _ _ _ _ _ _ _ _ _ _ _ _ _ _ _ _ _ _ _ _ _ _ _ _ _ _ _ _ _ _ _ _ _ _ _ _ _ _ _ _ _ _ (nb2.put (.string m1) (.string m2))
      | exact REST5.out _ _ _ _ _ _ _ _ _ _ _ _ _ _ _ _ _ _ _ _ _ _ _ _ _ _ _ _ _ _ _ _ _ _ _ _ _ _ _ _ _ _ _ _ _ _ _ _ _ _ _ _ _ _ _ _ _ _ _ _ _ _ _ _ _ _ _ _ _ _ _ _ _ _ _ _ _ _ _ _ _ _ _ _ _ _ _ _ _ _ _ _ _ _ _ _ _ _ _ _ _ _ (r2.push2 25 (.string m1) (.string m2))
      | exact REST5.out _ _ _ _ _ _ _ _ _ _ _ _ _ _ _ _ _ _ _ _ _ _ _ _ _ _ _ _ _ _ _ _ _ _ _ _ _ _ _ _ _ _ _ _ _ _ _ _ _ _ _ _ _ _ _ _ _ _ _ _ _ _ _ _ _ _ _ _ _ _ _ _ _ _ _ _ _ _ _ _ _ _ _ _ _ _ _ _ _ _ _ _ _ _ _ _ _ _ _ _ _ _ ((Bn.start r2 25 (.string ⟨#[]⟩) (.string ⟨#[]⟩)).put (.string m1) (.string m2))
end Go.Proofs.YtppbhnhmaocdnaaGreatDoor
