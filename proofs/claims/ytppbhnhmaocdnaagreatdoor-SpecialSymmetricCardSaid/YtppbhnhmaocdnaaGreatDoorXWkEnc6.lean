/- enclosure: operation.of, Add, Sub. PRINTED by wip/ge.py. -/
import Derived.Test.YtppbhnhmaocdnaaGreatDoorB27
set_option linter.unusedVariables false
set_option linter.unusedSimpArgs false
namespace Go.Proofs.YtppbhnhmaocdnaaGreatDoor
open Go.RowKit Go.Shelf

set_option maxRecDepth 100000 in
set_option maxHeartbeats 4000000 in
theorem opof_in (g : Nat) (a1 a2 b1 b2 c1 c2 : ByteArray) (w : World) (eg : ∀ args w, (callFunc g args).run Tryz.prog w = .ok (.enter g args) w) (hg : ∀ W, Below w.heap.size w W → Calls Tryz.prog g #[.agg #[.string a1, .string a2], .agg #[.string b1, .string b2]] W (RPost c1 c2 W)) :
    Calls Tryz.prog 66 #[.func (.func g) #[] #[], .agg #[.string a1, .string a2], .agg #[.string b1, .string b2]] w (OfPost c1 c2 w) := by
  unfold RPost at hg
  unfold OfPost
  have HG := Lib.hid hg
  clear hg
  obtain ⟨W0, hW0, k0, t0, o0, b0⟩ := boxes3 w 25 25 25 (.string a1) (.string a2) (.string b1) (.string b2) (.string ⟨#[]⟩) (.string ⟨#[]⟩)
  rw [hW0] at k0 t0 o0 b0
  clear hW0
  have z0 := k0.c00
  have z1 := k0.c01
  have z2 := t0.c00
  have z3 := t0.c01
  go_enter Tryz.func66, Tryz.ntmps66
  go_wp2_with (first
    | (go_at_call 102; refine (must_in _ _ _).mono ?_; rintro e w2 ⟨rfl, hb2⟩; have b2' := b1'.trans (hb2.mono b1'.size); have o2 := o1.below hb2; have y0 := o2.c00; have y1 := o2.c01; have y2 := o2.f0)
    | (refine (show Calls _ g _ _ _ from HG.out _ b0).mono ?_; rintro e w1 ⟨rfl, hb1⟩; have b1' := b0.trans (hb1.mono b0.size); have o1 := o0.below hb1))
  have r5 := o2.put (.string c1) (.string c2)
  refine bodyPost_ret_by (v := .agg #[.string c1, .string c2]) (by simp [results, Tryz.f66, go_sem, r5.c00, r5.c01]) rfl ⟨rfl, below_put2 b2' _ _ (by omega)⟩

structure OpTwo (g : Nat) (x y u v c d : ByteArray × ByteArray) : Prop where
  lo : ∀ W, TabOf W → Calls Tryz.prog g #[.agg #[.string x.1, .string x.2], .agg #[.string y.1, .string y.2]] W (RPost c.1 c.2 W)
  hi : ∀ W, TabOf W → Calls Tryz.prog g #[.agg #[.string u.1, .string u.2], .agg #[.string v.1, .string v.2]] W (RPost d.1 d.2 W)

set_option maxRecDepth 100000 in
set_option maxHeartbeats 4000000 in
theorem sub1_in (Q A B : Nat) (a1 a2 a3 a4 b1 b2 b3 b4 c1 c2 c3 c4 : ByteArray) (w : World) (hQ : w.cell? ⟨Q, 0, none⟩ = some (.func (.func 15) #[] #[])) (hA : R4 A w (.string a1) (.string a2) (.string a3) (.string a4)) (hB : R4 B w (.string b1) (.string b2) (.string b3) (.string b4))
    (ho : OpTwo 15 (a1, a2) (b3, b4) (a3, a4) (b1, b2) (c1, c2) (c3, c4)) (ht : TabOf w) :
    Calls Tryz.prog 65 #[.pointer (some ⟨Q, 0, none⟩), .pointer (some ⟨A, 0, none⟩), .pointer (some ⟨B, 0, none⟩)] w fun r w' => r = .returned (.agg #[.string c1, .string c2, .string c3, .string c4]) ∧ Below w.heap.size w w' := by
  have EG : ∀ args w, (callFunc 15 args).run Tryz.prog w = .ok (.enter 15 args) w := enters_of Tryz.func15 (by kernel_rfl) rfl
  have H1 : ∀ W, TabOf W → Calls Tryz.prog 66 #[.func (.func 15) #[] #[], .agg #[.string a1, .string a2], .agg #[.string b3, .string b4]] W (OfPost c1 c2 W) := fun W h => opof_in _ _ _ _ _ _ _ W EG (fun W' hb => ho.lo W' (h.below hb))
  have H2 : ∀ W, TabOf W → Calls Tryz.prog 66 #[.func (.func 15) #[] #[], .agg #[.string a3, .string a4], .agg #[.string b1, .string b2]] W (OfPost c3 c4 W) := fun W h => opof_in _ _ _ _ _ _ _ W EG (fun W' hb => ho.hi W' (h.below hb))
  unfold OfPost at H1 H2
  replace H1 := Lib.hid H1
  replace H2 := Lib.hid H2
  clear ho
  have bn := belowNew w (.cells #[.string ⟨#[]⟩, .string ⟨#[]⟩, .string ⟨#[]⟩, .string ⟨#[]⟩] 32)
  have k0 := R4.new w 32 (.string ⟨#[]⟩) (.string ⟨#[]⟩) (.string ⟨#[]⟩) (.string ⟨#[]⟩)
  have hq : w.heap.size ≠ Q := by have := ltOf hQ; omega
  have ha : w.heap.size ≠ A := by have := ltOf hA.c0; omega
  have hb' : w.heap.size ≠ B := by have := ltOf hB.c0; omega
  have m0 := hA.below bn
  have n0 := hB.below bn
  have p0 := Below.get bn hQ
  have b0 := bn.drew
  generalize hW : w.alloc (.cells #[.string ⟨#[]⟩, .string ⟨#[]⟩, .string ⟨#[]⟩, .string ⟨#[]⟩] 32) = W0 at *
  have k0' : R4 w.heap.size W0.drew (.string ⟨#[]⟩) (.string ⟨#[]⟩) (.string ⟨#[]⟩) (.string ⟨#[]⟩) := k0.below (Below.refl _ W0).drew
  have m0' : R4 A W0.drew (.string a1) (.string a2) (.string a3) (.string a4) := m0.below (Below.refl _ W0).drew
  have n0' : R4 B W0.drew (.string b1) (.string b2) (.string b3) (.string b4) := n0.below (Below.refl _ W0).drew
  have p0' : W0.drew.cell? ⟨Q, 0, none⟩ = some (.func (.func 15) #[] #[]) := p0
  rw [← hW] at k0' m0' n0' p0' b0
  clear hA hB hQ k0 m0 n0 p0 bn hW W0
  have t0 := ht.below b0
  go_enter Tryz.func65, Tryz.ntmps65
  go_wp2
  go_region_held3 (fun W => W.cell? ⟨Q, 0, none⟩ = some (.func (.func 15) #[] #[]) ∧ W.cell? ⟨A, 0, none⟩ = some (.string a1) ∧ W.cell? ⟨A, 1, none⟩ = some (.string a2) ∧ W.cell? ⟨A, 2, none⟩ = some (.string a3) ∧ W.cell? ⟨A, 3, none⟩ = some (.string a4) ∧ W.cell? ⟨B, 0, none⟩ = some (.string b1) ∧ W.cell? ⟨B, 1, none⟩ = some (.string b2) ∧ W.cell? ⟨B, 2, none⟩ = some (.string b3) ∧ W.cell? ⟨B, 3, none⟩ = some (.string b4))
    (first
      | with_reducible exact ⟨p0', m0'.c0, m0'.c1, m0'.c2, m0'.c3, n0'.c0, n0'.c1, n0'.c2, n0'.c3⟩
      | with_reducible exact ⟨p1, m1.c0, m1.c1, m1.c2, m1.c3, n1.c0, n1.c1, n1.c2, n1.c3⟩
      | with_reducible exact ⟨p2, m2.c0, m2.c1, m2.c2, m2.c3, n2.c0, n2.c1, n2.c2, n2.c3⟩
      | exact ⟨cell_put4 p2 hq _ _ _ _, cell_put4 m2.c0 ha _ _ _ _, cell_put4 m2.c1 ha _ _ _ _, cell_put4 m2.c2 ha _ _ _ _, cell_put4 m2.c3 ha _ _ _ _, cell_put4 n2.c0 hb' _ _ _ _, cell_put4 n2.c1 hb' _ _ _ _, cell_put4 n2.c2 hb' _ _ _ _, cell_put4 n2.c3 hb' _ _ _ _⟩) (first
    | (have hchk := k0'; clear hchk; go_at_call 66; refine (H1.out (World.drew _) t0).mono ?_; rintro e w1 ⟨rfl, hb1⟩; have k1 := k0'.below hb1; have m1 := m0'.below hb1; have n1 := n0'.below hb1; have p1 := Below.get hb1 p0'; have b1' := b0.trans (hb1.mono b0.size); clear hb1 k0' m0' n0' p0' b0 t0)
    | (have hchk := k1; clear hchk; go_at_call 66; refine (H2.out _ (ht.below b1')).mono ?_; rintro e w2 ⟨rfl, hb2⟩; have k2 := k1.below hb2; have m2 := m1.below hb2; have n2 := n1.below hb2; have p2 := Below.get hb2 p1; have b2' := b1'.trans (hb2.mono b1'.size); have e0 := k2.c0; have e1 := k2.c1; have e2 := k2.c2; have e3 := k2.c3; have e4 := k2.f; clear hb2 k1 m1 n1 p1 b1'))
  all_goals go_wp2
  all_goals
    have r5 := k2.put (.string c1) (.string c2) (.string c3) (.string c4)
    refine bodyPost_ret_by (v := .agg #[.string c1, .string c2, .string c3, .string c4]) (by simp [results, Tryz.f65, go_sem, r5.c0, r5.c1, r5.c2, r5.c3]) rfl ⟨rfl, below_put4 b2' _ _ _ _ (Nat.le_refl _)⟩
theorem ent_esub : ∀ args w, (callFunc 65 args).run Tryz.prog w = .ok (.enter 65 args) w := enters_of Tryz.func65 (by kernel_rfl) rfl

set_option maxRecDepth 100000 in
set_option maxHeartbeats 8000000 in
theorem sub_raw (n1 d1 n2 d2 n3 d3 n4 d4 r1 s1 r2 s2 : Int) (w : World) (hi1 : IsI n1 d1 n2 d2) (hi2 : IsI n3 d3 n4 d4)
    (ho : OpTwo 15 (str n1, str d1) (str n4, str d4) (str n2, str d2) (str n3, str d3) (str r1, str s1) (str r2, str s2)) (ht : TabOf w) :
    Calls Tryz.prog 21 #[IV n1 d1 n2 d2, IV n3 d3 n4 d4] w (IvPost r1 s1 r2 s2 w) := by
  have x1 := (Bx.mk (w := w) (l := []) (Below.refl _ w) (fun x hx => absurd hx List.not_mem_nil)).push 32 (str n1) (str d1) (str n2) (str d2)
  have x2 := x1.push 32 (str n3) (str d3) (str n4) (str d4)
  have x3 := x2.push 32 ⟨#[]⟩ ⟨#[]⟩ ⟨#[]⟩ ⟨#[]⟩
  have e1 := sizeNew w (.cells #[.string (str n1), .string (str d1), .string (str n2), .string (str d2)] 32)
  have e2 := sizeNew (w.alloc (.cells #[.string (str n1), .string (str d1), .string (str n2), .string (str d2)] 32)) (.cells #[.string (str n3), .string (str d3), .string (str n4), .string (str d4)] 32)
  have e3 := sizeNew ((w.alloc (.cells #[.string (str n1), .string (str d1), .string (str n2), .string (str d2)] 32)).alloc (.cells #[.string (str n3), .string (str d3), .string (str n4), .string (str d4)] 32)) (.cells #[.string ⟨#[]⟩, .string ⟨#[]⟩, .string ⟨#[]⟩, .string ⟨#[]⟩] 32)
  rw [e2, e1] at x3
  rw [e1] at e2
  rw [e2] at e3
  generalize hW3 : ((w.alloc (.cells #[.string (str n1), .string (str d1), .string (str n2), .string (str d2)] 32)).alloc (.cells #[.string (str n3), .string (str d3), .string (str n4), .string (str d4)] 32)).alloc (.cells #[.string ⟨#[]⟩, .string ⟨#[]⟩, .string ⟨#[]⟩, .string ⟨#[]⟩] 32) = W3 at *
  have bf := belowNew W3 (.cells #[.func (.func 15) #[] #[]] 82)
  have q4 : (W3.alloc (.cells #[.func (.func 15) #[] #[]] 82)).cell? ⟨W3.heap.size, 0, none⟩ = some (.func (.func 15) #[] #[]) := cellAt _ _ _ 0 _ rfl
  have x4 := x3.below bf
  have e4 := sizeNew W3 (.cells #[.func (.func 15) #[] #[]] 82)
  generalize hW4 : W3.alloc (.cells #[.func (.func 15) #[] #[]] 82) = W4 at *
  have i5 := ivs_two W4 32 n1 d1 n2 d2 n3 d3 n4 d4
  have bs := belowNew W4 (.cells #[.string (str n1), .string (str d1), .string (str n2), .string (str d2), .string (str n3), .string (str d3), .string (str n4), .string (str d4)] 32)
  have x5 := x4.below bs
  have q5 := Below.get bs q4
  have ra := x5.k (w.heap.size, str n1, str d1, str n2, str d2) (by simp)
  have rb := x5.k (w.heap.size + 1, str n3, str d3, str n4, str d4) (by simp)
  have rc := x5.k (w.heap.size + 1 + 1, ⟨#[]⟩, ⟨#[]⟩, ⟨#[]⟩, ⟨#[]⟩) (by simp)
  have b5 := x5.b
  have HC := Lib.hid (compute_iv 65 _ #[.pointer (some ⟨W3.heap.size, 0, none⟩), .pointer (some ⟨w.heap.size, 0, none⟩), .pointer (some ⟨w.heap.size + 1, 0, none⟩)] r1 s1 r2 s2 [(n1, d1, n2, d2), (n3, d3, n4, d4)] _ i5 (by simp) (allI_two hi1 hi2) (ht.below b5) ent_esub
    (fun W' hW' => sub1_in W3.heap.size w.heap.size (w.heap.size + 1) _ _ _ _ _ _ _ _ _ _ _ _ W' (Below.get hW' q5) (ra.below hW') (rb.below hW') ho (ht.below (b5.trans (hW'.mono b5.size)))))
  have EG : ∀ args w, (callFunc 15 args).run Tryz.prog w = .ok (.enter 15 args) w := enters_of Tryz.func15 (by kernel_rfl) rfl
  rw [e4, e3] at HC
  rw [e3] at q4 q5
  subst hW4 hW3
  unfold IvPost
  unfold IV at *
  generalize str r1 = r1' at *
  generalize str s1 = s1' at *
  generalize str r2 = r2' at *
  generalize str s2 = s2' at *
  generalize str n1 = n1' at *
  generalize str d1 = d1' at *
  generalize str n2 = n2' at *
  generalize str d2 = d2' at *
  generalize str n3 = n3' at *
  generalize str d3 = d3' at *
  generalize str n4 = n4' at *
  generalize str d4 = d4' at *
  clear x1 x2 x3 x4 x5 i5 bf bs ra rb e1 e2 e3 e4 hi1 hi2 ho q4 q5
  go_enter Tryz.func21, Tryz.ntmps21
  go_wp2_with (go_at_call 64; refine HC.out.mono ?_; rintro e w1 ⟨rfl, hb1⟩; have m1 := rc.below hb1; have b1 := b5.trans (hb1.mono b5.size); have z0 := m1.c0; have z1 := m1.c1; have z2 := m1.c2; have z3 := m1.c3; have z4 := m1.f)
  have r5 := m1.put (.string r1') (.string s1') (.string r2') (.string s2')
  refine bodyPost_ret_by (v := .tuple #[.agg #[.string r1', .string s1', .string r2', .string s2'], .int .i64 0]) (by simp [results, Tryz.f21, go_sem, r5.c0, r5.c1, r5.c2, r5.c3]) rfl ⟨rfl, below_put4 b1 _ _ _ _ (by omega)⟩
end Go.Proofs.YtppbhnhmaocdnaaGreatDoor
