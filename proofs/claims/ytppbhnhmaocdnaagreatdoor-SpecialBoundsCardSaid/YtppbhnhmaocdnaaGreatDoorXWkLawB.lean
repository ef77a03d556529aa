/- law06: SpecialBounds, from what its calls answer. PRINTED by wip/gb.py. -/
import Derived.Test.YtppbhnhmaocdnaaGreatDoorB27
set_option linter.unusedVariables false
set_option linter.unusedSimpArgs false
namespace Go.Proofs.YtppbhnhmaocdnaaGreatDoor
open Go.RowKit Go.Shelf

set_option maxRecDepth 100000 in
set_option maxHeartbeats 20000000 in
theorem lbounds_raw (w : World) (ht : TabOf w) (x0 x1 y0 y1 v1 v2 k1 k2 k3 : Int) (a1 a2 s0 s1 n1 n2 p1 p2 p3 p4 b1 b2 l1 l2 q1 q2 q3 q4 : ByteArray)
    (hw1 : IntKind.i64.wrap (1 + v1) = 1 + v1) (hw2 : IntKind.i64.wrap (1 + v2) = 1 + v2)
    (hk1 : decide (k1 ≤ 0) = true) (hk2 : decide (k2 ≤ 0) = true) (hk3 : decide (0 ≤ k3) = true)
    (hsm : ∀ W, TabOf W → Calls Tryz.prog 10 #[.agg #[.int .i64 x0, .int .i64 x1], .int .i64 19] W (OfPost a1 a2 W))
    (ho11 : ∀ W, TabOf W → Calls Tryz.prog 12 #[.int .i64 1, .int .i64 1] W (OfPost s1 s1 W))
    (ho01 : ∀ W, TabOf W → Calls Tryz.prog 12 #[.int .i64 0, .int .i64 1] W (OfPost s0 s1 W))
    (had : ∀ W, TabOf W → Calls Tryz.prog 11 #[.agg #[.string a1, .string a2], .agg #[.string s1, .string s1]] W (RPost n1 n2 W))
    (hex : ∀ W, TabOf W → Calls Tryz.prog 13 #[.agg #[.string a1, .string a2], .int .i64 10] W (AnsPost p1 p2 p3 p4 0 W))
    (hp1 : ∀ W, Calls Tryz.prog 14 #[.int .i64 y0, .int .i64 999] W (IntPost v1 W))
    (hp2 : ∀ W, Calls Tryz.prog 14 #[.int .i64 y1, .int .i64 50] W (IntPost v2 W))
    (hob : ∀ W, TabOf W → Calls Tryz.prog 12 #[.int .i64 (1 + v1), .int .i64 (1 + v2)] W (OfPost b1 b2 W))
    (hsb : ∀ W, TabOf W → Calls Tryz.prog 15 #[.agg #[.string b1, .string b2], .agg #[.string s1, .string s1]] W (RPost l1 l2 W))
    (hlg : ∀ W, TabOf W → Calls Tryz.prog 16 #[.agg #[.string b1, .string b2], .int .i64 10] W (AnsPost q1 q2 q3 q4 0 W))
    (hc1 : ∀ W, TabOf W → Calls Tryz.prog 17 #[.agg #[.string n1, .string n2], .agg #[.string p3, .string p4]] W (IntPost k1 W))
    (hc2 : ∀ W, TabOf W → Calls Tryz.prog 17 #[.agg #[.string q1, .string q2], .agg #[.string l1, .string l2]] W (IntPost k2 W))
    (hc3 : ∀ W, TabOf W → Calls Tryz.prog 17 #[.agg #[.string p1, .string p2], .agg #[.string s0, .string s1]] W (IntPost k3 W)) :
    Calls Tryz.prog 3 #[.agg #[.int .i64 x0, .int .i64 x1], .agg #[.int .i64 y0, .int .i64 y1]] w (TruePost w) := by
  have hsa := fun W h => lsane_in W h
  unfold OfPost at hsm ho11 ho01 hob
  unfold RPost at had hsb
  unfold AnsPost at hex hlg
  unfold IntPost at hp1 hp2 hc1 hc2 hc3
  unfold TruePost at hsa
  unfold TruePost
  have HSA := Lib.hid hsa; clear hsa
  have HSM := Lib.hid hsm; clear hsm
  have HO11 := Lib.hid ho11; clear ho11
  have HO01 := Lib.hid ho01; clear ho01
  have HAD := Lib.hid had; clear had
  have HEX := Lib.hid hex; clear hex
  have HP1 := Lib.hid hp1; clear hp1
  have HP2 := Lib.hid hp2; clear hp2
  have HOB := Lib.hid hob; clear hob
  have HSB := Lib.hid hsb; clear hsb
  have HLG := Lib.hid hlg; clear hlg
  have HC1 := Lib.hid hc1; clear hc1
  have HC2 := Lib.hid hc2; clear hc2
  have HC3 := Lib.hid hc3; clear hc3
  have x0' := (((Bc.nil w).push2 22 (.int .i64 x0) (.int .i64 x1)).push2 22 (.int .i64 y0) (.int .i64 y1)).sub (l' := [(w.heap.size, 0, .int .i64 x0), (w.heap.size, 1, .int .i64 x1), ((w.alloc (.cells #[.int .i64 x0, .int .i64 x1] 22)).heap.size, 0, .int .i64 y0), ((w.alloc (.cells #[.int .i64 x0, .int .i64 x1] 22)).heap.size, 1, .int .i64 y1)]) (by simp)
  rw [sizeNew] at x0'
  go_enter Tryz.func3, Tryz.ntmps3
  go_wp2_with (first
    | (have hchk := x0'; clear hchk; go_at_call 9; refine (HSA.out _ (ht.below x0'.b)).mono ?_; rintro e w1 ⟨rfl, hb1⟩; have g1 := x0'.below hb1; clear hb1 x0'; have z0 : w1.cell? ⟨w.heap.size, 0, none⟩ = some (.int .i64 x0) := g1.k (_, _, _) (by simp); have z1 : w1.cell? ⟨w.heap.size, 1, none⟩ = some (.int .i64 x1) := g1.k (_, _, _) (by simp))
    | (go_at_call 10; refine (HSM.out _ (ht.below g1.b)).mono ?_; rintro e w2 ⟨rfl, hb2⟩; have g2 := (g1.below hb2).push2 25 (.string a1) (.string a2); clear hb2 g1 z0 z1))
  have g2' := g2.sub (l' := [(w.heap.size, 0, .int .i64 x0), (w.heap.size, 1, .int .i64 x1), (w.heap.size + 1, 0, .int .i64 y0), (w.heap.size + 1, 1, .int .i64 y1), (w2.heap.size, 0, .string a1), (w2.heap.size, 1, .string a2)]) (by simp)
  clear g2
  generalize hW2 : w2.alloc (.cells #[.string a1, .string a2] 25) = W2 at *
  clear hW2
  rename_i K3 hK3
  have REST3 : ∀ (u9 u10 u11 u12 u13 u14 u15 u16 u17 u18 u19 u20 u21 u22 u23 u24 u25 u26 u27 u28 u29 u30 u31 u32 u33 u34 u35 u36 u37 u38 u39 u40 u41 u42 u43 u44 u45 u46 u47 u48 u49 u50 u51 u52 u53 u54 u55 u56 u57 u58 u59 u60 u61 u62 u63 u64 u65 u66 u67 u68 u69 u70 u71 u72 u73 u74 u75 u76 u77 u78 u79 u80 u81 u82 u83 u84 u85 u86 u87 : Value) (R7 : Nat) (F3 : World), Bc w ([(w.heap.size, 0, .int .i64 x0), (w.heap.size, 1, .int .i64 x1), (w.heap.size + 1, 0, .int .i64 y0), (w.heap.size + 1, 1, .int .i64 y1), (w2.heap.size, 0, .string a1), (w2.heap.size, 1, .string a2)] ++ [(R7, 0, .string n1), (R7, 1, .string n2)]) F3 → K3 { tmps := #[.agg #[.int .i64 x0, .int .i64 x1], .agg #[.int .i64 y0, .int .i64 y1], .pointer (some ⟨w.heap.size, 0, none⟩), .pointer (some ⟨w.heap.size + 1, 0, none⟩), .bool false, .bool true, .pointer (some ⟨w2.heap.size, 0, none⟩), .pointer (some ⟨R7, 0, none⟩), .int .i64 0, u9, u10, u11, u12, u13, u14, u15, u16, u17, u18, u19, u20, u21, u22, u23, u24, u25, u26, u27, u28, u29, u30, u31, u32, u33, u34, u35, u36, u37, u38, u39, u40, u41, u42, u43, u44, u45, u46, u47, u48, u49, u50, u51, u52, u53, u54, u55, u56, u57, u58, u59, u60, u61, u62, u63, u64, u65, u66, u67, u68, u69, u70, u71, u72, u73, u74, u75, u76, u77, u78, u79, u80, u81, u82, u83, u84, u85, u86, u87], defers := [] } F3 := by
    intro u9 u10 u11 u12 u13 u14 u15 u16 u17 u18 u19 u20 u21 u22 u23 u24 u25 u26 u27 u28 u29 u30 u31 u32 u33 u34 u35 u36 u37 u38 u39 u40 u41 u42 u43 u44 u45 u46 u47 u48 u49 u50 u51 u52 u53 u54 u55 u56 u57 u58 u59 u60 u61 u62 u63 u64 u65 u66 u67 u68 u69 u70 u71 u72 u73 u74 u75 u76 u77 u78 u79 u80 u81 u82 u83 u84 u85 u86 u87 R7 F3 gin
    have g3 := gin.sub (l' := [(w.heap.size, 0, .int .i64 x0), (w.heap.size, 1, .int .i64 x1), (w.heap.size + 1, 0, .int .i64 y0), (w.heap.size + 1, 1, .int .i64 y1), (w2.heap.size, 0, .string a1), (w2.heap.size, 1, .string a2), (R7, 0, .string n1), (R7, 1, .string n2)]) (by simp)
    clear gin g2'
    refine hK3 _ _ ?_
    clear hK3
    have z0 : F3.cell? ⟨w2.heap.size, 0, none⟩ = some (.string a1) := g3.k (_, _, _) (by simp)
    have z1 : F3.cell? ⟨w2.heap.size, 1, none⟩ = some (.string a2) := g3.k (_, _, _) (by simp)
    go_wp2_with (go_at_call 13; refine (HEX.out _ (ht.below g3.b)).mono ?_; rintro e w5 ⟨rfl, hb5⟩; have g5 := (g3.below hb5).push4 32 (.string p1) (.string p2) (.string p3) (.string p4); clear hb5 g3 z0 z1)
    have g5' := g5.sub (l' := [(w.heap.size, 0, .int .i64 x0), (w.heap.size, 1, .int .i64 x1), (w.heap.size + 1, 0, .int .i64 y0), (w.heap.size + 1, 1, .int .i64 y1), (w2.heap.size, 0, .string a1), (w2.heap.size, 1, .string a2), (R7, 0, .string n1), (R7, 1, .string n2), (w5.heap.size, 0, .string p1), (w5.heap.size, 1, .string p2), (w5.heap.size, 2, .string p3), (w5.heap.size, 3, .string p4)]) (by simp)
    clear g5
    generalize hW5 : w5.alloc (.cells #[.string p1, .string p2, .string p3, .string p4] 32) = W5 at *
    clear hW5
    rename_i K5 hK5
    have REST5 : ∀ (u12 u13 u14 u15 u16 u17 u18 u19 u20 u21 u22 u23 u24 u25 u26 u27 u28 u29 u30 u31 u32 u33 u34 u35 u36 u37 u38 u39 u40 u41 u42 u43 u44 u45 u46 u47 u48 u49 u50 u51 u52 u53 u54 u55 u56 u57 u58 u59 u60 u61 u62 u63 u64 u65 u66 u67 u68 u69 u70 u71 u72 u73 u74 u75 u76 u77 u78 u79 u80 u81 u82 u83 u84 u85 u86 u87 : Value) (R11 : Nat) (F5 : World), Bc w ([(w.heap.size, 0, .int .i64 x0), (w.heap.size, 1, .int .i64 x1), (w.heap.size + 1, 0, .int .i64 y0), (w.heap.size + 1, 1, .int .i64 y1), (w2.heap.size, 0, .string a1), (w2.heap.size, 1, .string a2), (R7, 0, .string n1), (R7, 1, .string n2), (w5.heap.size, 0, .string p1), (w5.heap.size, 1, .string p2), (w5.heap.size, 2, .string p3), (w5.heap.size, 3, .string p4)] ++ [(R11, 0, .string b1), (R11, 1, .string b2)]) F5 → K5 { tmps := #[.agg #[.int .i64 x0, .int .i64 x1], .agg #[.int .i64 y0, .int .i64 y1], .pointer (some ⟨w.heap.size, 0, none⟩), .pointer (some ⟨w.heap.size + 1, 0, none⟩), .bool false, .bool true, .pointer (some ⟨w2.heap.size, 0, none⟩), .pointer (some ⟨R7, 0, none⟩), .int .i64 0, .pointer (some ⟨w5.heap.size, 0, none⟩), .int .i64 0, .pointer (some ⟨R11, 0, none⟩), u12, u13, u14, u15, u16, u17, u18, u19, u20, u21, u22, u23, u24, u25, u26, u27, u28, u29, u30, u31, u32, u33, u34, u35, u36, u37, u38, u39, u40, u41, u42, u43, u44, u45, u46, u47, u48, u49, u50, u51, u52, u53, u54, u55, u56, u57, u58, u59, u60, u61, u62, u63, u64, u65, u66, u67, u68, u69, u70, u71, u72, u73, u74, u75, u76, u77, u78, u79, u80, u81, u82, u83, u84, u85, u86, u87], defers := [] } F5 := by
      intro u12 u13 u14 u15 u16 u17 u18 u19 u20 u21 u22 u23 u24 u25 u26 u27 u28 u29 u30 u31 u32 u33 u34 u35 u36 u37 u38 u39 u40 u41 u42 u43 u44 u45 u46 u47 u48 u49 u50 u51 u52 u53 u54 u55 u56 u57 u58 u59 u60 u61 u62 u63 u64 u65 u66 u67 u68 u69 u70 u71 u72 u73 u74 u75 u76 u77 u78 u79 u80 u81 u82 u83 u84 u85 u86 u87 R11 F5 gin
      have g5 := gin.sub (l' := [(w.heap.size, 0, .int .i64 x0), (w.heap.size, 1, .int .i64 x1), (w.heap.size + 1, 0, .int .i64 y0), (w.heap.size + 1, 1, .int .i64 y1), (w2.heap.size, 0, .string a1), (w2.heap.size, 1, .string a2), (R7, 0, .string n1), (R7, 1, .string n2), (w5.heap.size, 0, .string p1), (w5.heap.size, 1, .string p2), (w5.heap.size, 2, .string p3), (w5.heap.size, 3, .string p4), (R11, 0, .string b1), (R11, 1, .string b2)]) (by simp)
      clear gin g5'
      refine hK5 _ _ ?_
      clear hK5
      go_wp2
      rename_i K6 hK6
      have REST6 : ∀ (u14 u15 u16 u17 u18 u19 u20 u21 u22 u23 u24 u25 u26 u27 u28 u29 u30 u31 u32 u33 u34 u35 u36 u37 u38 u39 u40 u41 u42 u43 u44 u45 u46 u47 u48 u49 u50 u51 u52 u53 u54 u55 u56 u57 u58 u59 u60 u61 u62 u63 u64 u65 u66 u67 u68 u69 u70 u71 u72 u73 u74 u75 u76 u77 u78 u79 u80 u81 u82 u83 u84 u85 u86 u87 : Value) (R12 : Nat) (F6 : World), Bc w ([(w.heap.size, 0, .int .i64 x0), (w.heap.size, 1, .int .i64 x1), (w.heap.size + 1, 0, .int .i64 y0), (w.heap.size + 1, 1, .int .i64 y1), (w2.heap.size, 0, .string a1), (w2.heap.size, 1, .string a2), (R7, 0, .string n1), (R7, 1, .string n2), (w5.heap.size, 0, .string p1), (w5.heap.size, 1, .string p2), (w5.heap.size, 2, .string p3), (w5.heap.size, 3, .string p4), (R11, 0, .string b1), (R11, 1, .string b2)] ++ [(R12, 0, .string l1), (R12, 1, .string l2)]) F6 → K6 { tmps := #[.agg #[.int .i64 x0, .int .i64 x1], .agg #[.int .i64 y0, .int .i64 y1], .pointer (some ⟨w.heap.size, 0, none⟩), .pointer (some ⟨w.heap.size + 1, 0, none⟩), .bool false, .bool true, .pointer (some ⟨w2.heap.size, 0, none⟩), .pointer (some ⟨R7, 0, none⟩), .int .i64 0, .pointer (some ⟨w5.heap.size, 0, none⟩), .int .i64 0, .pointer (some ⟨R11, 0, none⟩), .pointer (some ⟨R12, 0, none⟩), .int .i64 0, u14, u15, u16, u17, u18, u19, u20, u21, u22, u23, u24, u25, u26, u27, u28, u29, u30, u31, u32, u33, u34, u35, u36, u37, u38, u39, u40, u41, u42, u43, u44, u45, u46, u47, u48, u49, u50, u51, u52, u53, u54, u55, u56, u57, u58, u59, u60, u61, u62, u63, u64, u65, u66, u67, u68, u69, u70, u71, u72, u73, u74, u75, u76, u77, u78, u79, u80, u81, u82, u83, u84, u85, u86, u87], defers := [] } F6 := by
        intro u14 u15 u16 u17 u18 u19 u20 u21 u22 u23 u24 u25 u26 u27 u28 u29 u30 u31 u32 u33 u34 u35 u36 u37 u38 u39 u40 u41 u42 u43 u44 u45 u46 u47 u48 u49 u50 u51 u52 u53 u54 u55 u56 u57 u58 u59 u60 u61 u62 u63 u64 u65 u66 u67 u68 u69 u70 u71 u72 u73 u74 u75 u76 u77 u78 u79 u80 u81 u82 u83 u84 u85 u86 u87 R12 F6 gin
        have g6 := gin.sub (l' := [(w.heap.size, 0, .int .i64 x0), (w.heap.size, 1, .int .i64 x1), (w.heap.size + 1, 0, .int .i64 y0), (w.heap.size + 1, 1, .int .i64 y1), (w2.heap.size, 0, .string a1), (w2.heap.size, 1, .string a2), (R7, 0, .string n1), (R7, 1, .string n2), (w5.heap.size, 0, .string p1), (w5.heap.size, 1, .string p2), (w5.heap.size, 2, .string p3), (w5.heap.size, 3, .string p4), (R11, 0, .string b1), (R11, 1, .string b2), (R12, 0, .string l1), (R12, 1, .string l2)]) (by simp)
        clear gin g5
        refine hK6 _ _ ?_
        clear hK6
        have z0 : F6.cell? ⟨R11, 0, none⟩ = some (.string b1) := g6.k (_, _, _) (by simp)
        have z1 : F6.cell? ⟨R11, 1, none⟩ = some (.string b2) := g6.k (_, _, _) (by simp)
        go_wp2_with (go_at_call 16; refine (HLG.out _ (ht.below g6.b)).mono ?_; rintro e w7 ⟨rfl, hb7⟩; have g7 := (g6.below hb7).push4 32 (.string q1) (.string q2) (.string q3) (.string q4); clear hb7 g6 z0 z1)
        have S8 : ∀ W, Bc w ([(R7, 0, .string n1), (R7, 1, .string n2), (w5.heap.size, 0, .string p1), (w5.heap.size, 1, .string p2), (w5.heap.size, 2, .string p3), (w5.heap.size, 3, .string p4), (R12, 0, .string l1), (R12, 1, .string l2), (w7.heap.size, 0, .string q1), (w7.heap.size, 1, .string q2), (w7.heap.size, 2, .string q3), (w7.heap.size, 3, .string q4)]) W → (W.cell? ⟨R7, 0, none⟩ = some (.string n1) ∧ W.cell? ⟨R7, 1, none⟩ = some (.string n2) ∧ W.cell? ⟨w5.heap.size, 0, none⟩ = some (.string p1) ∧ W.cell? ⟨w5.heap.size, 1, none⟩ = some (.string p2) ∧ W.cell? ⟨w5.heap.size, 2, none⟩ = some (.string p3) ∧ W.cell? ⟨w5.heap.size, 3, none⟩ = some (.string p4) ∧ W.cell? ⟨R12, 0, none⟩ = some (.string l1) ∧ W.cell? ⟨R12, 1, none⟩ = some (.string l2) ∧ W.cell? ⟨w7.heap.size, 0, none⟩ = some (.string q1) ∧ W.cell? ⟨w7.heap.size, 1, none⟩ = some (.string q2) ∧ W.cell? ⟨w7.heap.size, 2, none⟩ = some (.string q3) ∧ W.cell? ⟨w7.heap.size, 3, none⟩ = some (.string q4)) := fun W h => ⟨h.k (_, _, _) (by simp), h.k (_, _, _) (by simp), h.k (_, _, _) (by simp), h.k (_, _, _) (by simp), h.k (_, _, _) (by simp), h.k (_, _, _) (by simp), h.k (_, _, _) (by simp), h.k (_, _, _) (by simp), h.k (_, _, _) (by simp), h.k (_, _, _) (by simp), h.k (_, _, _) (by simp), h.k (_, _, _) (by simp)⟩
        replace S8 := Lib.hid S8
        have r0 := (g7.sub (l' := [(R7, 0, .string n1), (R7, 1, .string n2), (w5.heap.size, 0, .string p1), (w5.heap.size, 1, .string p2), (w5.heap.size, 2, .string p3), (w5.heap.size, 3, .string p4), (R12, 0, .string l1), (R12, 1, .string l2), (w7.heap.size, 0, .string q1), (w7.heap.size, 1, .string q2), (w7.heap.size, 2, .string q3), (w7.heap.size, 3, .string q4)]) (by simp)).drew
        clear g7
        go_region_held3 (fun W => W.cell? ⟨R7, 0, none⟩ = some (.string n1) ∧ W.cell? ⟨R7, 1, none⟩ = some (.string n2) ∧ W.cell? ⟨w5.heap.size, 0, none⟩ = some (.string p1) ∧ W.cell? ⟨w5.heap.size, 1, none⟩ = some (.string p2) ∧ W.cell? ⟨w5.heap.size, 2, none⟩ = some (.string p3) ∧ W.cell? ⟨w5.heap.size, 3, none⟩ = some (.string p4) ∧ W.cell? ⟨R12, 0, none⟩ = some (.string l1) ∧ W.cell? ⟨R12, 1, none⟩ = some (.string l2) ∧ W.cell? ⟨w7.heap.size, 0, none⟩ = some (.string q1) ∧ W.cell? ⟨w7.heap.size, 1, none⟩ = some (.string q2) ∧ W.cell? ⟨w7.heap.size, 2, none⟩ = some (.string q3) ∧ W.cell? ⟨w7.heap.size, 3, none⟩ = some (.string q4))
          (first
            | with_reducible exact S8.out _ r0
            | with_reducible exact S8.out _ r1
            | with_reducible exact S8.out _ r2
            | with_reducible exact S8.out _ r3
            | with_reducible exact S8.out _ r4) (first
          | (have hchk := r0; clear hchk; go_at_call 17; refine (HC1.out (World.drew _) (ht.below r0.b)).mono ?_; rintro e v1 ⟨rfl, hb⟩; have r1 := r0.below hb; clear hb r0)
          | (have hchk := r1; clear hchk; go_at_call 17; refine (HC2.out _ (ht.below r1.b)).mono ?_; rintro e v2 ⟨rfl, hb⟩; have r2 := r1.below hb; clear hb r1)
          | (have hchk := r2; clear hchk; go_at_call 12; refine (HO01.out _ (ht.below r2.b)).mono ?_; rintro e v3 ⟨rfl, hb⟩; have r3 := r2.below hb; clear hb r2)
          | (have hchk := r3; clear hchk; go_at_call 17; refine (HC3.out _ (ht.below r3.b)).mono ?_; rintro e v4 ⟨rfl, hb⟩; have r4 := r3.below hb; clear hb r3))
        all_goals
          go_wp2
          refine bodyPost_ret_by (v := .bool true) (by simp [results, Tryz.f3, go_sem]) rfl ⟨rfl, r4.b⟩
      clear hK6
      replace REST6 := Lib.hid REST6
      have S6 : ∀ W, Bc w ([(w.heap.size, 0, .int .i64 x0), (w.heap.size, 1, .int .i64 x1), (w.heap.size + 1, 0, .int .i64 y0), (w.heap.size + 1, 1, .int .i64 y1), (w2.heap.size, 0, .string a1), (w2.heap.size, 1, .string a2), (R7, 0, .string n1), (R7, 1, .string n2), (w5.heap.size, 0, .string p1), (w5.heap.size, 1, .string p2), (w5.heap.size, 2, .string p3), (w5.heap.size, 3, .string p4), (R11, 0, .string b1), (R11, 1, .string b2)]) W → (W.cell? ⟨R11, 0, none⟩ = some (.string b1) ∧ W.cell? ⟨R11, 1, none⟩ = some (.string b2)) := fun W h => ⟨h.k (_, _, _) (by simp), h.k (_, _, _) (by simp)⟩
      replace S6 := Lib.hid S6
      have rr := g5
      have r0 := rr.drew
      clear g5
      go_region_held3 (fun W => W.cell? ⟨R11, 0, none⟩ = some (.string b1) ∧ W.cell? ⟨R11, 1, none⟩ = some (.string b2))
        (first
          | with_reducible exact S6.out _ r0
          | with_reducible exact S6.out _ r1
          | with_reducible exact S6.out _ r2
          | with_reducible exact S6.out _ nb1.b
          | with_reducible exact S6.out _ nb2.b
          | with_reducible exact S6.out _ (rr.new _).drew
          | with_reducible exact S6.out _ (r1.new _)
          | with_reducible exact S6.out _ (r2.new _)
          | exact S6.out _ (nb1.put _ _).left
          | exact S6.out _ (nb2.put _ _).left
          | exact S6.out _ ((Bn.start r1 _ _ _).put _ _).left
          | exact S6.out _ ((Bn.start r2 _ _ _).put _ _).left) (first
        | (have hchk := r0; clear hchk; with_reducible show Calls _ _ _ (World.drew (World.alloc _ _)) _; go_at_call 12; refine (HO11.out (World.drew (World.alloc _ _)) (ht.below (rr.new _).drew.b)).mono ?_; rintro e v1 ⟨rfl, hb⟩; have nb1 := (Bn.start rr 25 (.string ⟨#[]⟩) (.string ⟨#[]⟩)).drew.below hb; clear hb r0; have y0 := nb1.n.c00; have y1 := nb1.n.c01; have yf := nb1.n.f0)
        | (have hchk := r0; clear hchk; go_at_call 12; refine (HO11.out (World.drew _) (ht.below r0.b)).mono ?_; rintro e v1 ⟨rfl, hb⟩; have r1 := r0.below hb; clear hb r0)
        | (have hchk := r1; clear hchk; with_reducible show Calls _ _ _ (World.alloc _ _) _; go_at_call 15; refine (HSB.out (World.alloc _ _) (ht.below (r1.new _).b)).mono ?_; rintro e v2 ⟨rfl, hb⟩; have nb2 := (Bn.start r1 25 (.string ⟨#[]⟩) (.string ⟨#[]⟩)).below hb; clear hb r1; have y0 := nb2.n.c00; have y1 := nb2.n.c01; have yf := nb2.n.f0)
        | (have hchk := r1; clear hchk; go_at_call 15; refine (HSB.out (_) (ht.below r1.b)).mono ?_; rintro e v2 ⟨rfl, hb⟩; have r2 := r1.below hb; clear hb r1)
        | (have hchk := nb1; clear hchk; go_at_call 15; refine (HSB.out _ (ht.below nb1.b.b)).mono ?_; rintro e v2 ⟨rfl, hb⟩; have nb2 := nb1.below hb; clear hb nb1 y0 y1 yf; have y0 := nb2.n.c00; have y1 := nb2.n.c01; have yf := nb2.n.f0))
      all_goals
        first
          | exact REST6.out _ _ _ _ _ _ _ _ _ _ _ _ _ _ _ _ _ _ _ _ _ _ _ _ _ _ _ _ _ _ _ _ _ _ _ _ _ _ _ _ _ _ _ _ _ _ _ _ _ _ _ _ _ _ _ _ _ _ _ _ _ _ _ _ _ _ _ _ _ _ _ _ _ _ _ _ (nb2.put (.string l1) (.string l2))
          | exact REST6.out _ _ _ _ _ _ _ _ _ _ _ _ _ _ _ _ _ _ _ _ _ _ _ _ _ _ _ _ _ _ _ _ _ _ _ _ _ _ _ _ _ _ _ _ _ _ _ _ _ _ _ _ _ _ _ _ _ _ _ _ _ _ _ _ _ _ _ _ _ _ _ _ _ _ _ _ (r2.push2 25 (.string l1) (.string l2))
          | exact REST6.out _ _ _ _ _ _ _ _ _ _ _ _ _ _ _ _ _ _ _ _ _ _ _ _ _ _ _ _ _ _ _ _ _ _ _ _ _ _ _ _ _ _ _ _ _ _ _ _ _ _ _ _ _ _ _ _ _ _ _ _ _ _ _ _ _ _ _ _ _ _ _ _ _ _ _ _ ((Bn.start r2 25 (.string ⟨#[]⟩) (.string ⟨#[]⟩)).put (.string l1) (.string l2))
    clear hK5
    replace REST5 := Lib.hid REST5
    have S5 : ∀ W, Bc w ([(w.heap.size, 0, .int .i64 x0), (w.heap.size, 1, .int .i64 x1), (w.heap.size + 1, 0, .int .i64 y0), (w.heap.size + 1, 1, .int .i64 y1), (w2.heap.size, 0, .string a1), (w2.heap.size, 1, .string a2), (R7, 0, .string n1), (R7, 1, .string n2), (w5.heap.size, 0, .string p1), (w5.heap.size, 1, .string p2), (w5.heap.size, 2, .string p3), (w5.heap.size, 3, .string p4)]) W → (W.cell? ⟨w.heap.size + 1, 0, none⟩ = some (.int .i64 y0) ∧ W.cell? ⟨w.heap.size + 1, 1, none⟩ = some (.int .i64 y1)) := fun W h => ⟨h.k (_, _, _) (by simp), h.k (_, _, _) (by simp)⟩
    replace S5 := Lib.hid S5
    have rr := g5'
    have r0 := rr.drew
    clear g5'
    go_region_held3 (fun W => W.cell? ⟨w.heap.size + 1, 0, none⟩ = some (.int .i64 y0) ∧ W.cell? ⟨w.heap.size + 1, 1, none⟩ = some (.int .i64 y1))
      (first
        | with_reducible exact S5.out _ r0
        | with_reducible exact S5.out _ r1
        | with_reducible exact S5.out _ r2
        | with_reducible exact S5.out _ r3
        | with_reducible exact S5.out _ nb1.b
        | with_reducible exact S5.out _ nb2.b
        | with_reducible exact S5.out _ nb3.b
        | with_reducible exact S5.out _ (rr.new _).drew
        | with_reducible exact S5.out _ (r1.new _)
        | with_reducible exact S5.out _ (r2.new _)
        | with_reducible exact S5.out _ (r3.new _)
        | exact S5.out _ (nb1.put _ _).left
        | exact S5.out _ (nb2.put _ _).left
        | exact S5.out _ (nb3.put _ _).left
        | exact S5.out _ ((Bn.start r1 _ _ _).put _ _).left
        | exact S5.out _ ((Bn.start r2 _ _ _).put _ _).left
        | exact S5.out _ ((Bn.start r3 _ _ _).put _ _).left) (first
      | (have hchk := r0; clear hchk; with_reducible show Calls _ _ _ (World.drew (World.alloc _ _)) _; go_at_call 14; refine (HP1.out (World.drew (World.alloc _ _)) ).mono ?_; rintro e v1 ⟨rfl, hb⟩; have nb1 := (Bn.start rr 25 (.string ⟨#[]⟩) (.string ⟨#[]⟩)).drew.below hb; clear hb r0; have y0 := nb1.n.c00; have y1 := nb1.n.c01; have yf := nb1.n.f0)
      | (have hchk := r0; clear hchk; go_at_call 14; refine (HP1.out (World.drew _) ).mono ?_; rintro e v1 ⟨rfl, hb⟩; have r1 := r0.below hb; clear hb r0)
      | (have hchk := r1; clear hchk; with_reducible show Calls _ _ _ (World.alloc _ _) _; go_at_call 14; refine (HP2.out (World.alloc _ _) ).mono ?_; rintro e v2 ⟨rfl, hb⟩; have nb2 := (Bn.start r1 25 (.string ⟨#[]⟩) (.string ⟨#[]⟩)).below hb; clear hb r1; have y0 := nb2.n.c00; have y1 := nb2.n.c01; have yf := nb2.n.f0)
      | (have hchk := r1; clear hchk; go_at_call 14; refine (HP2.out (_) ).mono ?_; rintro e v2 ⟨rfl, hb⟩; have r2 := r1.below hb; clear hb r1)
      | (have hchk := nb1; clear hchk; go_at_call 14; refine (HP2.out _ ).mono ?_; rintro e v2 ⟨rfl, hb⟩; have nb2 := nb1.below hb; clear hb nb1 y0 y1 yf; have y0 := nb2.n.c00; have y1 := nb2.n.c01; have yf := nb2.n.f0)
      | (have hchk := r2; clear hchk; with_reducible show Calls _ _ _ (World.alloc _ _) _; go_at_call 12; refine (HOB.out (World.alloc _ _) (ht.below (r2.new _).b)).mono ?_; rintro e v3 ⟨rfl, hb⟩; have nb3 := (Bn.start r2 25 (.string ⟨#[]⟩) (.string ⟨#[]⟩)).below hb; clear hb r2; have y0 := nb3.n.c00; have y1 := nb3.n.c01; have yf := nb3.n.f0)
      | (have hchk := r2; clear hchk; go_at_call 12; refine (HOB.out (_) (ht.below r2.b)).mono ?_; rintro e v3 ⟨rfl, hb⟩; have r3 := r2.below hb; clear hb r2)
      | (have hchk := nb2; clear hchk; go_at_call 12; refine (HOB.out _ (ht.below nb2.b.b)).mono ?_; rintro e v3 ⟨rfl, hb⟩; have nb3 := nb2.below hb; clear hb nb2 y0 y1 yf; have y0 := nb3.n.c00; have y1 := nb3.n.c01; have yf := nb3.n.f0))
    all_goals
      first
        | exact REST5.out _ _ _ _ _ _ _ _ _ _ _ _ _ _ _ _ _ _ _ _ _ _ _ _ _ _ _ _ _ _ _ _ _ _ _ _ _ _ _ _ _ _ _ _ _ _ _ _ _ _ _ _ _ _ _ _ _ _ _ _ _ _ _ _ _ _ _ _ _ _ _ _ _ _ _ _ _ _ (nb3.put (.string b1) (.string b2))
        | exact REST5.out _ _ _ _ _ _ _ _ _ _ _ _ _ _ _ _ _ _ _ _ _ _ _ _ _ _ _ _ _ _ _ _ _ _ _ _ _ _ _ _ _ _ _ _ _ _ _ _ _ _ _ _ _ _ _ _ _ _ _ _ _ _ _ _ _ _ _ _ _ _ _ _ _ _ _ _ _ _ (r3.push2 25 (.string b1) (.string b2))
        | exact REST5.out _ _ _ _ _ _ _ _ _ _ _ _ _ _ _ _ _ _ _ _ _ _ _ _ _ _ _ _ _ _ _ _ _ _ _ _ _ _ _ _ _ _ _ _ _ _ _ _ _ _ _ _ _ _ _ _ _ _ _ _ _ _ _ _ _ _ _ _ _ _ _ _ _ _ _ _ _ _ ((Bn.start r3 25 (.string ⟨#[]⟩) (.string ⟨#[]⟩)).put (.string b1) (.string b2))
  clear hK3
  replace REST3 := Lib.hid REST3
  have S3 : ∀ W, Bc w ([(w.heap.size, 0, .int .i64 x0), (w.heap.size, 1, .int .i64 x1), (w.heap.size + 1, 0, .int .i64 y0), (w.heap.size + 1, 1, .int .i64 y1), (w2.heap.size, 0, .string a1), (w2.heap.size, 1, .string a2)]) W → (W.cell? ⟨w2.heap.size, 0, none⟩ = some (.string a1) ∧ W.cell? ⟨w2.heap.size, 1, none⟩ = some (.string a2)) := fun W h => ⟨h.k (_, _, _) (by simp), h.k (_, _, _) (by simp)⟩
  replace S3 := Lib.hid S3
  have rr := g2'
  have r0 := rr.drew
  clear g2'
  go_region_held3 (fun W => W.cell? ⟨w2.heap.size, 0, none⟩ = some (.string a1) ∧ W.cell? ⟨w2.heap.size, 1, none⟩ = some (.string a2))
    (first
      | with_reducible exact S3.out _ r0
      | with_reducible exact S3.out _ r1
      | with_reducible exact S3.out _ r2
      | with_reducible exact S3.out _ nb1.b
      | with_reducible exact S3.out _ nb2.b
      | with_reducible exact S3.out _ (rr.new _).drew
      | with_reducible exact S3.out _ (r1.new _)
      | with_reducible exact S3.out _ (r2.new _)
      | exact S3.out _ (nb1.put _ _).left
      | exact S3.out _ (nb2.put _ _).left
      | exact S3.out _ ((Bn.start r1 _ _ _).put _ _).left
      | exact S3.out _ ((Bn.start r2 _ _ _).put _ _).left) (first
    | (have hchk := r0; clear hchk; with_reducible show Calls _ _ _ (World.drew (World.alloc _ _)) _; go_at_call 12; refine (HO11.out (World.drew (World.alloc _ _)) (ht.below (rr.new _).drew.b)).mono ?_; rintro e v1 ⟨rfl, hb⟩; have nb1 := (Bn.start rr 25 (.string ⟨#[]⟩) (.string ⟨#[]⟩)).drew.below hb; clear hb r0; have y0 := nb1.n.c00; have y1 := nb1.n.c01; have yf := nb1.n.f0)
    | (have hchk := r0; clear hchk; go_at_call 12; refine (HO11.out (World.drew _) (ht.below r0.b)).mono ?_; rintro e v1 ⟨rfl, hb⟩; have r1 := r0.below hb; clear hb r0)
    | (have hchk := r1; clear hchk; with_reducible show Calls _ _ _ (World.alloc _ _) _; go_at_call 11; refine (HAD.out (World.alloc _ _) (ht.below (r1.new _).b)).mono ?_; rintro e v2 ⟨rfl, hb⟩; have nb2 := (Bn.start r1 25 (.string ⟨#[]⟩) (.string ⟨#[]⟩)).below hb; clear hb r1; have y0 := nb2.n.c00; have y1 := nb2.n.c01; have yf := nb2.n.f0)
    | (have hchk := r1; clear hchk; go_at_call 11; refine (HAD.out (_) (ht.below r1.b)).mono ?_; rintro e v2 ⟨rfl, hb⟩; have r2 := r1.below hb; clear hb r1)
    | (have hchk := nb1; clear hchk; go_at_call 11; refine (HAD.out _ (ht.below nb1.b.b)).mono ?_; rintro e v2 ⟨rfl, hb⟩; have nb2 := nb1.below hb; clear hb nb1 y0 y1 yf; have y0 := nb2.n.c00; have y1 := nb2.n.c01; have yf := nb2.n.f0))
  all_goals
    first
      | exact REST3.out _ _ _ _ _ _ _ _ _ _ _ _ _ _ _ _ _ _ _ _ _ _ _ _ _ _ _ _ _ _ _ _ _ _ _ _ _ _ _ _ _ _ _ _ _ _ _ _ _ _ _ _ _ _ _ _ _ _ _ _ _ _ _ _ _ _ _ _ _ _ _ _ _ _ _ _ _ _ _ _ _ (nb2.put (.string n1) (.string n2))
      | exact REST3.out _ _ _ _ _ _ _ _ _ _ _ _ _ _ _ _ _ _ _ _ _ _ _ _ _ _ _ _ _ _ _ _ _ _ _ _ _ _ _ _ _ _ _ _ _ _ _ _ _ _ _ _ _ _ _ _ _ _ _ _ _ _ _ _ _ _ _ _ _ _ _ _ _ _ _ _ _ _ _ _ _ (r2.push2 25 (.string n1) (.string n2))
      | exact REST3.out _ _ _ _ _ _ _ _ _ _ _ _ _ _ _ _ _ _ _ _ _ _ _ _ _ _ _ _ _ _ _ _ _ _ _ _ _ _ _ _ _ _ _ _ _ _ _ _ _ _ _ _ _ _ _ _ _ _ _ _ _ _ _ _ _ _ _ _ _ _ _ _ _ _ _ _ _ _ _ _ _ ((Bn.start r2 25 (.string ⟨#[]⟩) (.string ⟨#[]⟩)).put (.string n1) (.string n2))
end Go.Proofs.YtppbhnhmaocdnaaGreatDoor
