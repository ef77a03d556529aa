/- Quantile at one half. -/
import Derived.Test.YtppbhnhmaocdnaaGreatDoorXWkGrid2
set_option linter.unusedVariables false
set_option linter.unusedSimpArgs false
namespace Go.Proofs.YtppbhnhmaocdnaaGreatDoor
open Go.RowKit Go.Shelf

set_option maxRecDepth 100000 in
set_option maxHeartbeats 8000000 in
theorem quh_in (p : Nat) (w : World) (hp : p ≤ 12) (ht : TabOf w) : Calls Tryz.prog 18 #[NV (1, 2), .int .i64 p] w (IvPost 0 1 0 1 w) := by
  have hr : rightB (1, 1000000) (999999, 1000000) (1, 2) (p : Int) = true := rightB_of hp (by decide) (by decide)
  have HR := fun W h' => right_raw (1, 1000000) (999999, 1000000) (1, 2) ⟨#[]⟩ ⟨#[]⟩ ⟨#[]⟩ ⟨#[]⟩ .nilFunc p W ⟨.func 0, #[], #[], .inr rfl⟩ isR_q1 isR_q2 red12.short (by omega) (by omega) h'
  rw [hr] at HR
  have HTE := fun W => sat_in p (by omega) W
  have HPT := fun W h' => point_in 0 1 W isQ_0 h'
  unfold SV at HTE
  unfold NV at HR
  unfold IvPost IV NV
  unfold IV RV at HPT
  dsimp only at HR
  rw [str_mil, str_nin, str_one, str_two] at HR
  rw [str_zero, str_one] at HPT
  rw [str_zero]
  dsimp only
  rw [str_one, str_two]
  generalize str ((10 ^ p : Nat) : Int) = one at *
  replace HR := Lib.hid HR
  replace HTE := Lib.hid HTE
  replace HPT := Lib.hid HPT
  have hfd : ∀ (k : Int) (t : ByteArray) w, (Instr.field 59 (.agg #[.int .i64 k, .string t]) 1).run Tryz.prog w = .ok (.string t) w := fun k t w => field_one k t w
  have bn := belowNew w (.cells #[.string ⟨#[49]⟩, .string ⟨#[50]⟩] 25)
  have bn2 := belowNew (w.alloc (.cells #[.string ⟨#[49]⟩, .string ⟨#[50]⟩] 25)) (.cells #[.string ⟨#[]⟩, .string ⟨#[]⟩, .string ⟨#[]⟩, .string ⟨#[]⟩] 32)
  have o0 := R4.new (w.alloc (.cells #[.string ⟨#[49]⟩, .string ⟨#[50]⟩] 25)) 32 (.string ⟨#[]⟩) (.string ⟨#[]⟩) (.string ⟨#[]⟩) (.string ⟨#[]⟩)
  rw [sizeNew] at o0
  have i0 : QuI w ⟨#[49]⟩ ⟨#[50]⟩ _ := ⟨(RC.new w 25 (.string ⟨#[49]⟩) (.string ⟨#[50]⟩)).below bn2, o0, bn.trans (bn2.mono bn.size)⟩
  clear bn bn2 o0 hr
  go_enter Tryz.func18, Tryz.ntmps18
  go_wp2_with (first
    | (have hchk := i0; clear hchk; go_at_call 37; refine (ratio_in _ _ _).mono ?_; rintro e w1 ⟨rfl, hb1⟩; have i1 := i0.below hb1; clear hb1 i0)
    | (have hchk := i1; clear hchk; go_at_call 37; refine (ratio_in _ _ _).mono ?_; rintro e w2 ⟨rfl, hb2⟩; have bf := belowNew w2 (.cells #[.string ⟨#[49]⟩, .string ⟨#[49, 48, 48, 48, 48, 48, 48]⟩, .string ⟨#[57, 57, 57, 57, 57, 57]⟩, .string ⟨#[49, 48, 48, 48, 48, 48, 48]⟩, .string ⟨#[]⟩, .string ⟨#[]⟩, .string ⟨#[]⟩, .string ⟨#[]⟩, .nilFunc] 57); have i2 := (i1.below hb2).below bf; have y0 := i2.x.c00; have y1 := i2.x.c01; clear hb2 i1 bf)
    | (go_at_call 53; refine (HR.out _ (ht.below i2.b)).mono ?_; rintro e w3 ⟨rfl, hb3⟩; have i3 := i2.below hb3; clear hb3 i2 y0 y1)
    | (go_at_call 46; refine (HTE.out _).mono ?_; rintro e w4 ⟨rfl, hb4⟩; have i4 := i3.below hb4; clear hb4 i3))
  have j0 := i4.drew
  clear i4 HR HTE
  go_region_held3 (fun W => W.cell? ⟨w.heap.size, 0, none⟩ = some (.string ⟨#[49]⟩) ∧ W.cell? ⟨w.heap.size, 1, none⟩ = some (.string ⟨#[50]⟩))
    (first
      | with_reducible exact ⟨j0.x.c00, j0.x.c01⟩
      | with_reducible exact ⟨j1.x.c00, j1.x.c01⟩) (first
    | (go_at_call 37; refine (ratio_in _ _ (World.drew _)).mono ?_; rintro e w5 ⟨rfl, hb5⟩; have j1 := j0.below hb5; clear hb5))
  go_wp2_with (first
    | (have hchk := j1; clear hchk; go_at_call 37; refine (ratio_in _ _ _).mono ?_; rintro e w6 ⟨rfl, hb6⟩; have j2 := j1.below hb6; clear hb6 j1)
    | (go_at_call 22; refine (HPT.out _ (ht.below j2.b)).mono ?_; rintro e w7 ⟨rfl, hb7⟩; have j3 := j2.below hb7; clear hb7 j2; have z0 := j3.o.c0; have z1 := j3.o.c1; have z2 := j3.o.c2; have z3 := j3.o.c3; have z4 := j3.o.f))
  have r5 := j3.o.put (.string ⟨#[48]⟩) (.string ⟨#[49]⟩) (.string ⟨#[48]⟩) (.string ⟨#[49]⟩)
  refine bodyPost_ret_by (v := .tuple #[.agg #[.string ⟨#[48]⟩, .string ⟨#[49]⟩, .string ⟨#[48]⟩, .string ⟨#[49]⟩], .int .i64 0]) (by simp [results, Tryz.f18, go_sem, r5.c0, r5.c1, r5.c2, r5.c3]) rfl ⟨rfl, below_put4 j3.b _ _ _ _ (by omega)⟩
end Go.Proofs.YtppbhnhmaocdnaaGreatDoor
