/- A cell that the second try gives. PRINTED by wip/gcell.py. -/
import Derived.Test.YtppbhnhmaocdnaaGreatDoorB27
set_option linter.unusedVariables false
set_option linter.unusedSimpArgs false
namespace Go.Proofs.YtppbhnhmaocdnaaGreatDoor
open Go.RowKit Go.Shelf

structure CellNo (k p : Nat) (b : Int × Int) : Prop where
  hk : k ≤ 150
  fb : Fit b
  rn : RndOk (pMk k b.1).1 (pMk k b.1).2 (pMk k b.2).1 (pMk k b.2).2 p
  oi : IsI (pCl k p b).1 (pCl k p b).2 (pCh k p b).1 (pCh k p b).2
  ws : SubOk (pCh k p b).1 (pCh k p b).2 (pCl k p b).1 (pCl k p b).2
  wq : IsQ (pWd (pCl k p b) (pCh k p b))
  tq : IsR 1 ((10 ^ p : Nat) : Int)
  bad : 0 < cmpQ (pWd (pCl k p b) (pCh k p b)).1 (pWd (pCl k p b) (pCh k p b)).2 1 ((10 ^ p : Nat) : Int)

set_option maxRecDepth 100000 in
set_option maxHeartbeats 20000000 in
theorem cell2_in (g : Nat) (caps : Array Value) (lo hi at_ va x bdA bdB : Int × Int) (p : Nat) (w : World) (eg : ∀ args w, (callFunc g args).run Tryz.prog w = .ok (.enter g args) w) (h1 : IsQ lo) (h2 : IsQ hi) (hx : ShortQ x.1 x.2) (hp2 : p ≤ 12)
    (hr : rightB lo hi x p = true) (hat : x ≠ at_) (hbA : ∀ W, Below w.heap.size w W → Calls Tryz.prog g (#[SV (p + 15), NV x] ++ caps) W (NPost bdA W)) (hcA : CellNo (p + 15) p bdA)
    (hbB : ∀ W, Below w.heap.size w W → Calls Tryz.prog g (#[SV (p + 40), NV x] ++ caps) W (NPost bdB W)) (hcB : CellOk (p + 40) p bdB) (ht : TabOf w) :
    Calls Tryz.prog 44 #[FnV lo hi at_ va (.func (.func g) #[] caps), NV x, .int .i64 p] w (IvPost (pCl (p + 40) p bdB).1 (pCl (p + 40) p bdB).2 (pCh (p + 40) p bdB).1 (pCh (p + 40) p bdB).2 w) := by
  have HR := fun W h' => right_in lo hi at_ va x (.func (.func g) #[] caps) p W ⟨_, _, _, .inl rfl⟩ h1 h2 hx (by omega) (by omega) h'
  rw [hr] at HR
  have HAP : ∀ W, Calls Tryz.prog 46 #[.int .i64 p] W fun e w' => e = .returned (.agg #[.int .i64 p, .string (str ((10 ^ p : Nat) : Int))]) ∧ Below W.heap.size W w' := fun W => sat_in p (by omega) W
  have HATA : ∀ W, Calls Tryz.prog 46 #[.int .i64 ((p : Int) + 15)] W fun e w' => e = .returned (.agg #[.int .i64 ((p : Int) + 15), .string (str ((10 ^ (p + 15) : Nat) : Int))]) ∧ Below W.heap.size W w' := fun W => sat_in (p + 15) (by omega) W
  have HBDA : ∀ W, Below w.heap.size w W → Calls Tryz.prog g (#[.agg #[.int .i64 ((p : Int) + 15), .string (str ((10 ^ (p + 15) : Nat) : Int))], NV x] ++ caps) W (NPost bdA W) := hbA
  have HM1A : ∀ W, TabOf W → Calls Tryz.prog 57 #[.string (str bdA.1), .string (str ((10 ^ (p + 15) : Nat) : Int))] W (QPost (pMk (p + 15) bdA.1) W) := fun W h' => make_in bdA.1 ((10 ^ (p + 15) : Nat) : Int) W hcA.fb.1 (ten_big hcA.hk) (ten_ne _) h'
  have HM2A : ∀ W, TabOf W → Calls Tryz.prog 57 #[.string (str bdA.2), .string (str ((10 ^ (p + 15) : Nat) : Int))] W (QPost (pMk (p + 15) bdA.2) W) := fun W h' => make_in bdA.2 ((10 ^ (p + 15) : Nat) : Int) W hcA.fb.2 (ten_big hcA.hk) (ten_ne _) h'
  have HRDA : ∀ W, TabOf W → Calls Tryz.prog 59 #[IV (pMk (p + 15) bdA.1).1 (pMk (p + 15) bdA.1).2 (pMk (p + 15) bdA.2).1 (pMk (p + 15) bdA.2).2, .int .i64 p] W (IvPost (pCl (p + 15) p bdA).1 (pCl (p + 15) p bdA).2 (pCh (p + 15) p bdA).1 (pCh (p + 15) p bdA).2 W) := fun W h' => round_in _ _ _ _ p W hcA.rn h'
  have HWDA : ∀ W, TabOf W → Calls Tryz.prog 60 #[IV (pCl (p + 15) p bdA).1 (pCl (p + 15) p bdA).2 (pCh (p + 15) p bdA).1 (pCh (p + 15) p bdA).2] W (QPost (pWd (pCl (p + 15) p bdA) (pCh (p + 15) p bdA)) W) := fun W h' => width_in _ _ _ _ W hcA.oi hcA.ws h'
  have HCMA := fun W h' => rcmp_in (pWd (pCl (p + 15) p bdA) (pCh (p + 15) p bdA)).1 (pWd (pCl (p + 15) p bdA) (pCh (p + 15) p bdA)).2 1 ((10 ^ p : Nat) : Int) W hcA.wq hcA.tq h'
  have honeA : decide (cmpQ (pWd (pCl (p + 15) p bdA) (pCh (p + 15) p bdA)).1 (pWd (pCl (p + 15) p bdA) (pCh (p + 15) p bdA)).2 1 ((10 ^ p : Nat) : Int) ≤ 0) = false := decide_eq_false (by have := hcA.bad; omega)
  have HATB : ∀ W, Calls Tryz.prog 46 #[.int .i64 ((p : Int) + 40)] W fun e w' => e = .returned (.agg #[.int .i64 ((p : Int) + 40), .string (str ((10 ^ (p + 40) : Nat) : Int))]) ∧ Below W.heap.size W w' := fun W => sat_in (p + 40) (by omega) W
  have HBDB : ∀ W, Below w.heap.size w W → Calls Tryz.prog g (#[.agg #[.int .i64 ((p : Int) + 40), .string (str ((10 ^ (p + 40) : Nat) : Int))], NV x] ++ caps) W (NPost bdB W) := hbB
  have HM1B : ∀ W, TabOf W → Calls Tryz.prog 57 #[.string (str bdB.1), .string (str ((10 ^ (p + 40) : Nat) : Int))] W (QPost (pMk (p + 40) bdB.1) W) := fun W h' => make_in bdB.1 ((10 ^ (p + 40) : Nat) : Int) W hcB.fb.1 (ten_big hcB.hk) (ten_ne _) h'
  have HM2B : ∀ W, TabOf W → Calls Tryz.prog 57 #[.string (str bdB.2), .string (str ((10 ^ (p + 40) : Nat) : Int))] W (QPost (pMk (p + 40) bdB.2) W) := fun W h' => make_in bdB.2 ((10 ^ (p + 40) : Nat) : Int) W hcB.fb.2 (ten_big hcB.hk) (ten_ne _) h'
  have HRDB : ∀ W, TabOf W → Calls Tryz.prog 59 #[IV (pMk (p + 40) bdB.1).1 (pMk (p + 40) bdB.1).2 (pMk (p + 40) bdB.2).1 (pMk (p + 40) bdB.2).2, .int .i64 p] W (IvPost (pCl (p + 40) p bdB).1 (pCl (p + 40) p bdB).2 (pCh (p + 40) p bdB).1 (pCh (p + 40) p bdB).2 W) := fun W h' => round_in _ _ _ _ p W hcB.rn h'
  have HWDB : ∀ W, TabOf W → Calls Tryz.prog 60 #[IV (pCl (p + 40) p bdB).1 (pCl (p + 40) p bdB).2 (pCh (p + 40) p bdB).1 (pCh (p + 40) p bdB).2] W (QPost (pWd (pCl (p + 40) p bdB) (pCh (p + 40) p bdB)) W) := fun W h' => width_in _ _ _ _ W hcB.oi hcB.ws h'
  have HCMB := fun W h' => rcmp_in (pWd (pCl (p + 40) p bdB) (pCh (p + 40) p bdB)).1 (pWd (pCl (p + 40) p bdB) (pCh (p + 40) p bdB)).2 1 ((10 ^ p : Nat) : Int) W hcB.wq hcB.tq h'
  have honeB : decide (cmpQ (pWd (pCl (p + 40) p bdB) (pCh (p + 40) p bdB)).1 (pWd (pCl (p + 40) p bdB) (pCh (p + 40) p bdB)).2 1 ((10 ^ p : Nat) : Int) ≤ 0) = true := decide_eq_true hcB.one
  have hne : ¬ (str x.1 = str at_.1 ∧ str x.2 = str at_.2) := fun ⟨e1, e2⟩ => hat (Prod.ext (str_inj e1) (str_inj e2))
  unfold IvPost at HRDA HRDB ⊢
  unfold QPost at HM1A HM2A HWDA HM1B HM2B HWDB
  unfold NPost NV at HBDA HBDB
  unfold IV at HRDA HWDA HRDB HWDB ⊢
  unfold RV at HCMA HCMB
  rw [str_one] at HCMA HCMB
  unfold FnV NV at HR ⊢
  clear h1 h2 hx hr hat hbA hcA hbB hcB
  generalize cmpQ (pWd (pCl (p + 15) p bdA) (pCh (p + 15) p bdA)).1 (pWd (pCl (p + 15) p bdA) (pCh (p + 15) p bdA)).2 1 ((10 ^ p : Nat) : Int) = ccA at *
  generalize pWd (pCl (p + 15) p bdA) (pCh (p + 15) p bdA) = WDA at *
  generalize pCl (p + 15) p bdA = CLA at *
  generalize pCh (p + 15) p bdA = CHA at *
  generalize pMk (p + 15) bdA.1 = MLA at *
  generalize pMk (p + 15) bdA.2 = MHA at *
  obtain ⟨WDA1, WDA2⟩ := WDA
  obtain ⟨CLA1, CLA2⟩ := CLA
  obtain ⟨CHA1, CHA2⟩ := CHA
  obtain ⟨MLA1, MLA2⟩ := MLA
  obtain ⟨MHA1, MHA2⟩ := MHA
  generalize cmpQ (pWd (pCl (p + 40) p bdB) (pCh (p + 40) p bdB)).1 (pWd (pCl (p + 40) p bdB) (pCh (p + 40) p bdB)).2 1 ((10 ^ p : Nat) : Int) = ccB at *
  generalize pWd (pCl (p + 40) p bdB) (pCh (p + 40) p bdB) = WDB at *
  generalize pCl (p + 40) p bdB = CLB at *
  generalize pCh (p + 40) p bdB = CHB at *
  generalize pMk (p + 40) bdB.1 = MLB at *
  generalize pMk (p + 40) bdB.2 = MHB at *
  obtain ⟨WDB1, WDB2⟩ := WDB
  obtain ⟨CLB1, CLB2⟩ := CLB
  obtain ⟨CHB1, CHB2⟩ := CHB
  obtain ⟨MLB1, MLB2⟩ := MLB
  obtain ⟨MHB1, MHB2⟩ := MHB
  dsimp only at *
  generalize str WDA1 = WDA1 at *
  generalize str WDA2 = WDA2 at *
  generalize str CLA1 = CLA1 at *
  generalize str CLA2 = CLA2 at *
  generalize str CHA1 = CHA1 at *
  generalize str CHA2 = CHA2 at *
  generalize str MLA1 = MLA1 at *
  generalize str MLA2 = MLA2 at *
  generalize str MHA1 = MHA1 at *
  generalize str MHA2 = MHA2 at *
  generalize str bdA.1 = bdA1 at *
  generalize str bdA.2 = bdA2 at *
  generalize str ((10 ^ (p + 15) : Nat) : Int) = oneA at *
  generalize str WDB1 = WDB1 at *
  generalize str WDB2 = WDB2 at *
  generalize str CLB1 = CLB1 at *
  generalize str CLB2 = CLB2 at *
  generalize str CHB1 = CHB1 at *
  generalize str CHB2 = CHB2 at *
  generalize str MLB1 = MLB1 at *
  generalize str MLB2 = MLB2 at *
  generalize str MHB1 = MHB1 at *
  generalize str MHB2 = MHB2 at *
  generalize str bdB.1 = bdB1 at *
  generalize str bdB.2 = bdB2 at *
  generalize str ((10 ^ (p + 40) : Nat) : Int) = oneB at *
  generalize str ((10 ^ p : Nat) : Int) = tp at *
  generalize str x.1 = xa at *
  generalize str x.2 = xb at *
  generalize str lo.1 = la at *
  generalize str lo.2 = lb at *
  generalize str hi.1 = ha at *
  generalize str hi.2 = hb at *
  generalize str at_.1 = aa at *
  generalize str at_.2 = ab at *
  generalize str va.1 = va1 at *
  generalize str va.2 = vb at *
  replace HR := Lib.hid HR
  replace HAP := Lib.hid HAP
  replace HATA := Lib.hid HATA
  replace HBDA := Lib.hid HBDA
  replace HM1A := Lib.hid HM1A
  replace HM2A := Lib.hid HM2A
  replace HRDA := Lib.hid HRDA
  replace HWDA := Lib.hid HWDA
  replace HCMA := Lib.hid HCMA
  replace HATB := Lib.hid HATB
  replace HBDB := Lib.hid HBDB
  replace HM1B := Lib.hid HM1B
  replace HM2B := Lib.hid HM2B
  replace HRDB := Lib.hid HRDB
  replace HWDB := Lib.hid HWDB
  replace HCMB := Lib.hid HCMB
  have hI := CelI.start w la lb ha hb aa ab va1 vb xa xb (.func (.func g) #[] caps) 57 25 32
  have x0 := hI.f.c0
  have x1 := hI.f.c1
  have x2 := hI.f.c2
  have x3 := hI.f.c3
  have x4 := hI.f.c4
  have x5 := hI.f.c5
  have x6 := hI.f.c6
  have x7 := hI.f.c7
  have x8 := hI.f.c8
  have x9 := hI.x.c00
  have x10 := hI.x.c01
  have hcs : ¬ xa.toList = aa.toList ∨ (xa.toList = aa.toList ∧ ¬ xb.toList = ab.toList) := by
    by_cases e1 : xa.toList = aa.toList
    · refine .inr ⟨e1, fun e2 => hne ⟨?_, ?_⟩⟩
      · rw [ByteArray.toList_eq, ByteArray.toList_eq] at e1; exact ByteArray.ext (Array.toList_inj.1 e1)
      · rw [ByteArray.toList_eq, ByteArray.toList_eq] at e2; exact ByteArray.ext (Array.toList_inj.1 e2)
    · exact .inl e1
  clear hne
  have hfd : ∀ w, (Instr.field 59 (.agg #[.int .i64 p, .string tp]) 1).run Tryz.prog w = .ok (.string tp) w := fun w => field_one _ _ w
  have hp0 : (0 : Int) ≤ p := by omega
  have hp15 : (p : Int) + 15 ≤ 27 := by omega
  have hp40 : (p : Int) + 40 ≤ 52 := by omega
  rcases hcs with hq | ⟨hq, hq2⟩
  all_goals
    go_enter Tryz.func44, Tryz.ntmps44
    go_wp2_with (first
      | (go_at_call 53; refine (HR.out _ (ht.below hI.b)).mono ?_; rintro e w1 ⟨rfl, hb1⟩; have i1 := hI.below hb1; have z0 := i1.x.c00; have z1 := i1.x.c01; have z2 := i1.f.c4; have z3 := i1.f.c5; have z4 := i1.f.c6; have z5 := i1.f.c7))
    have bn1 := belowNew w1 (.cells #[.int .i64 15, .int .i64 40] 3)
    have i2 := i1.below bn1
    have s0 := cellAt w1 #[.int .i64 15, .int .i64 40] 3 0 _ rfl
    have s1 := cellAt w1 #[.int .i64 15, .int .i64 40] 3 1 _ rfl
    clear hI i1 z0 z1 z2 z3 z4 z5 x0 x1 x2 x3 x4 x5 x6 x7 x8 x9 x10 HR hb1 hq
    go_loopw [44] (fun i W => ∃ j : Nat, j ≤ 1 ∧ i = .int .i64 j ∧ CelI w la lb ha hb aa ab va1 vb xa xb (.func (.func g) #[] caps) W ∧ W.cell? ⟨w1.heap.size, 0, none⟩ = some (.int .i64 15) ∧ W.cell? ⟨w1.heap.size, 1, none⟩ = some (.int .i64 40)) (fun i _ => 1 - (intOf i).toNat)
    case atStart => exact ⟨0, by omega, rfl, i2, s0, s1⟩
    case round =>
      obtain ⟨j, hj, rfl, j0, s0, s1⟩ := hrel
      clear i2
      have hj2 : j = 0 ∨ j = 1 := by omega
      rcases hj2 with rfl | rfl
      · skip
        go_wp2_with (first
          | (go_at_call 46; refine (HATA.out _).mono ?_; rintro e w2 ⟨rfl, hb2⟩; have t2 := Below.get hb2 s0; have u2 := Below.get hb2 s1; have bn2 := belowNew w2 (.cells #[.int .i64 ((p : Int) + 15), .string oneA] 59); have j2 := (j0.below hb2).below bn2; have t2 := Below.get bn2 t2; have u2 := Below.get bn2 u2; have sc2 := RC.new w2 59 (.int .i64 ((p : Int) + 15)) (.string oneA); have z0 := j2.f.c8; have z1 := j2.x.c00; have z2 := j2.x.c01; clear HATA)
          | (refine (show Calls _ g _ _ _ from HBDA.out _ j2.b).mono ?_; rintro e w3 ⟨rfl, hb3⟩; have t3 := Below.get hb3 t2; have u3 := Below.get hb3 u2; have bn3 := belowNew w3 (.cells #[.string bdA1, .string bdA2] 61); have j3 := (j2.below hb3).below bn3; have t3 := Below.get bn3 t3; have u3 := Below.get bn3 u3; have sc3 := (sc2.below hb3).below bn3; have n3 := RC.new w3 61 (.string bdA1) (.string bdA2); have z0 := sc3.c01; have z1 := n3.c00; have z2 := n3.c01)
          | (have HA := HM1A; go_at_call 57; refine (HA.out _ (ht.below j3.b)).mono ?_; clear HM1A HA; rintro e w4 ⟨rfl, hb4⟩; have t4 := Below.get hb4 t3; have u4 := Below.get hb4 u3; have bn4 := belowNew w4 (.cells #[.string MLA1, .string MLA2] 25); have j4 := (j3.below hb4).below bn4; have t4 := Below.get bn4 t4; have u4 := Below.get bn4 u4; have sc4 := (sc3.below hb4).below bn4; have n4 := (n3.below hb4).below bn4; have l4 := RC.new w4 25 (.string MLA1) (.string MLA2); have z0 := sc4.c01; have z2 := n4.c01)
          | (go_at_call 57; refine (HM2A.out _ (ht.below j4.b)).mono ?_; rintro e w5 ⟨rfl, hb5⟩; have t5 := Below.get hb5 t4; have u5 := Below.get hb5 u4; have bn5 := belowNew w5 (.cells #[.string MHA1, .string MHA2] 25); have j5 := (j4.below hb5).below bn5; have t5 := Below.get bn5 t5; have u5 := Below.get bn5 u5; have l5 := (l4.below hb5).below bn5; have h5 := RC.new w5 25 (.string MHA1) (.string MHA2); have z0 := l5.c00; have z1 := l5.c01; have z2 := h5.c00; have z3 := h5.c01)
          | (go_at_call 59; refine (HRDA.out _ (ht.below j5.b)).mono ?_; rintro e w6 ⟨rfl, hb6⟩; have t6 := Below.get hb6 t5; have u6 := Below.get hb6 u5; have bn6 := belowNew w6 (.cells #[.string CLA1, .string CLA2, .string CHA1, .string CHA2] 32); have j6 := (j5.below hb6).below bn6; have t6 := Below.get bn6 t6; have u6 := Below.get bn6 u6; have o6 := R4.new w6 32 (.string CLA1) (.string CLA2) (.string CHA1) (.string CHA2); have z0 := o6.c0; have z1 := o6.c1; have z2 := o6.c2; have z3 := o6.c3)
          | (go_at_call 60; refine (HWDA.out _ (ht.below j6.b)).mono ?_; rintro e w7 ⟨rfl, hb7⟩; have t7 := Below.get hb7 t6; have u7 := Below.get hb7 u6; have bn7 := belowNew w7 (.cells #[.string WDA1, .string WDA2] 25); have j7 := (j6.below hb7).below bn7; have t7 := Below.get bn7 t7; have u7 := Below.get bn7 u7; have o7 := (o6.below hb7).below bn7; have d7 := RC.new w7 25 (.string WDA1) (.string WDA2)))
        have t8 := Below.get (Below.refl _ _).drew t7
        have u8 := Below.get (Below.refl _ _).drew u7
        have m0 := j7.drew
        have o0 := o7.drew
        have d0 := d7.drew
        clear j0 j2 j3 j4 j5 j6 j7 sc2 sc3 sc4 n3 n4 l4 l5 h5 o6 o7 d7 bn1 bn2 bn3 bn4 bn5 bn6 bn7 hb2 hb3 hb4 hb5 hb6 hb7 HBDA HM2A HRDA HWDA
        go_region_held3 (fun W => W.cell? ⟨w7.heap.size, 0, none⟩ = some (.string WDA1) ∧ W.cell? ⟨w7.heap.size, 1, none⟩ = some (.string WDA2))
          (first | with_reducible exact ⟨d0.c00, d0.c01⟩ | with_reducible exact ⟨d1.c00, d1.c01⟩ | with_reducible exact ⟨d2.c00, d2.c01⟩ | with_reducible exact ⟨d3.c00, d3.c01⟩) (first
          | (go_at_call 46; refine (HAP.out (World.drew _)).mono ?_; rintro e w8 ⟨rfl, hb8⟩; have m1 := m0.below hb8; have t9 := Below.get hb8 t8; have u9 := Below.get hb8 u8; have o1 := o0.below hb8; have d1 := d0.below hb8)
          | (go_at_call 37; refine (ratio_in _ _ _).mono ?_; rintro e w9 ⟨rfl, hb9⟩; have m2 := m1.below hb9; have t10 := Below.get hb9 t9; have u10 := Below.get hb9 u9; have o2 := o1.below hb9; have d2 := d1.below hb9)
          | (go_at_call 17; refine (HCMA.out _ (ht.below m2.b)).mono ?_; rintro e w10 ⟨rfl, hb10⟩; have m3 := m2.below hb10; have t11 := Below.get hb10 t10; have u11 := Below.get hb10 u10; have o3 := o2.below hb10; have d3 := d2.below hb10))
        go_wp2
        go_roundw
        case rel => exact ⟨1, by omega, by simp, m3, t11, u11⟩
        case measure => simp [intOf]
      · skip
        go_wp2_with (first
          | (go_at_call 46; refine (HATB.out _).mono ?_; rintro e w2 ⟨rfl, hb2⟩; have bn2 := belowNew w2 (.cells #[.int .i64 ((p : Int) + 40), .string oneB] 59); have j2 := (j0.below hb2).below bn2; have sc2 := RC.new w2 59 (.int .i64 ((p : Int) + 40)) (.string oneB); have z0 := j2.f.c8; have z1 := j2.x.c00; have z2 := j2.x.c01; clear HATB)
          | (refine (show Calls _ g _ _ _ from HBDB.out _ j2.b).mono ?_; rintro e w3 ⟨rfl, hb3⟩; have bn3 := belowNew w3 (.cells #[.string bdB1, .string bdB2] 61); have j3 := (j2.below hb3).below bn3; have sc3 := (sc2.below hb3).below bn3; have n3 := RC.new w3 61 (.string bdB1) (.string bdB2); have z0 := sc3.c01; have z1 := n3.c00; have z2 := n3.c01)
          | (have HA := HM1B; go_at_call 57; refine (HA.out _ (ht.below j3.b)).mono ?_; clear HM1B HA; rintro e w4 ⟨rfl, hb4⟩; have bn4 := belowNew w4 (.cells #[.string MLB1, .string MLB2] 25); have j4 := (j3.below hb4).below bn4; have sc4 := (sc3.below hb4).below bn4; have n4 := (n3.below hb4).below bn4; have l4 := RC.new w4 25 (.string MLB1) (.string MLB2); have z0 := sc4.c01; have z2 := n4.c01)
          | (go_at_call 57; refine (HM2B.out _ (ht.below j4.b)).mono ?_; rintro e w5 ⟨rfl, hb5⟩; have bn5 := belowNew w5 (.cells #[.string MHB1, .string MHB2] 25); have j5 := (j4.below hb5).below bn5; have l5 := (l4.below hb5).below bn5; have h5 := RC.new w5 25 (.string MHB1) (.string MHB2); have z0 := l5.c00; have z1 := l5.c01; have z2 := h5.c00; have z3 := h5.c01)
          | (go_at_call 59; refine (HRDB.out _ (ht.below j5.b)).mono ?_; rintro e w6 ⟨rfl, hb6⟩; have bn6 := belowNew w6 (.cells #[.string CLB1, .string CLB2, .string CHB1, .string CHB2] 32); have j6 := (j5.below hb6).below bn6; have o6 := R4.new w6 32 (.string CLB1) (.string CLB2) (.string CHB1) (.string CHB2); have z0 := o6.c0; have z1 := o6.c1; have z2 := o6.c2; have z3 := o6.c3)
          | (go_at_call 60; refine (HWDB.out _ (ht.below j6.b)).mono ?_; rintro e w7 ⟨rfl, hb7⟩; have bn7 := belowNew w7 (.cells #[.string WDB1, .string WDB2] 25); have j7 := (j6.below hb7).below bn7; have o7 := (o6.below hb7).below bn7; have d7 := RC.new w7 25 (.string WDB1) (.string WDB2)))
        have m0 := j7.drew
        have o0 := o7.drew
        have d0 := d7.drew
        clear j0 j2 j3 j4 j5 j6 j7 sc2 sc3 sc4 n3 n4 l4 l5 h5 o6 o7 d7 bn1 bn2 bn3 bn4 bn5 bn6 bn7 hb2 hb3 hb4 hb5 hb6 hb7 s0 s1 HBDB HM2B HRDB HWDB
        go_region_held3 (fun W => W.cell? ⟨w7.heap.size, 0, none⟩ = some (.string WDB1) ∧ W.cell? ⟨w7.heap.size, 1, none⟩ = some (.string WDB2))
          (first | with_reducible exact ⟨d0.c00, d0.c01⟩ | with_reducible exact ⟨d1.c00, d1.c01⟩ | with_reducible exact ⟨d2.c00, d2.c01⟩ | with_reducible exact ⟨d3.c00, d3.c01⟩) (first
          | (go_at_call 46; refine (HAP.out (World.drew _)).mono ?_; rintro e w8 ⟨rfl, hb8⟩; have m1 := m0.below hb8; have o1 := o0.below hb8; have d1 := d0.below hb8)
          | (go_at_call 37; refine (ratio_in _ _ _).mono ?_; rintro e w9 ⟨rfl, hb9⟩; have m2 := m1.below hb9; have o2 := o1.below hb9; have d2 := d1.below hb9)
          | (go_at_call 17; refine (HCMB.out _ (ht.below m2.b)).mono ?_; rintro e w10 ⟨rfl, hb10⟩; have m3 := m2.below hb10; have o3 := o2.below hb10; have d3 := d2.below hb10))
        have z0 := o3.c0
        have z1 := o3.c1
        have z2 := o3.c2
        have z3 := o3.c3
        have y0 := m3.o.c0
        have y1 := m3.o.c1
        have y2 := m3.o.c2
        have y3 := m3.o.c3
        have y4 := m3.o.f
        go_wp2
        have r5 := m3.o.put (.string CLB1) (.string CLB2) (.string CHB1) (.string CHB2)
        refine bodyPost_ret_by (v := .tuple #[.agg #[.string CLB1, .string CLB2, .string CHB1, .string CHB2], .int .i64 0]) (by simp [results, Tryz.f44, go_sem, r5.c0, r5.c1, r5.c2, r5.c3]) rfl ⟨rfl, below_put4 m3.b _ _ _ _ (by omega)⟩
end Go.Proofs.YtppbhnhmaocdnaaGreatDoor
