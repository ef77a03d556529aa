/- Normal outside -8 .. 8. PRINTED by wip/gno.py. -/
import Derived.Test.YtppbhnhmaocdnaaGreatDoorXWkCell4
set_option linter.unusedVariables false
set_option linter.unusedSimpArgs false
namespace Go.Proofs.YtppbhnhmaocdnaaGreatDoor
theorem qxwkfa {α : Type _} (l : List α) (i : Nat) (a : α) : l.toArray.setIfInBounds i a = (l.set i a).toArray := List.setIfInBounds_toArray ..
theorem qxwkfz {α : Type _} {x : α} {xs : List α} {a : α} : (x :: xs).set 0 a = a :: xs := rfl
theorem qxwkfs {α : Type _} {x : α} {xs : List α} {i : Nat} {a : α} : (x :: xs).set (i + 1) a = x :: xs.set i a := rfl
open Go.RowKit Go.Shelf

theorem Bc.push9 {w : World} {l : List (Nat × Nat × Value)} {W : World} (h : Bc w l W) (T : TypeId) (a b c d e f g i j : Value) :
    Bc w (l ++ [(W.heap.size, 0, a), (W.heap.size, 1, b), (W.heap.size, 2, c), (W.heap.size, 3, d), (W.heap.size, 4, e), (W.heap.size, 5, f), (W.heap.size, 6, g), (W.heap.size, 7, i), (W.heap.size, 8, j)]) (W.alloc (.cells #[a, b, c, d, e, f, g, i, j] T)) := by
  refine ⟨(h.new _).b, fun x hx => ?_⟩
  rw [List.mem_append] at hx
  rcases hx with hx | hx
  · exact (h.new _).k x hx
  · have r := R9.new W T a b c d e f g i j
    simp only [List.mem_cons, List.not_mem_nil, or_false] at hx
    rcases hx with rfl | rfl | rfl | rfl | rfl | rfl | rfl | rfl | rfl
    · exact r.c0
    · exact r.c1
    · exact r.c2
    · exact r.c3
    · exact r.c4
    · exact r.c5
    · exact r.c6
    · exact r.c7
    · exact r.c8

set_option maxRecDepth 100000 in
set_option maxHeartbeats 20000000 in
theorem NormalL_of (x : Int × Int) (p : Nat) (st1 st2 : ByteArray) (w : World) (hp : p ≤ 12) (hx : ShortQ x.1 x.2)
    (hl : cmpQ x.1 x.2 (-8) 1 ≤ 0) (hneg : x.1 < 0) (hr : rightB (-((10 ^ 13 : Nat) : Int), 1) (((10 ^ 13 : Nat) : Int), 1) x p = true) (ht : TabOf w)
    (hmk : ∀ W, TabOf W → Calls Tryz.prog 57 #[.string ⟨#[49]⟩, .string (str ((10 ^ p : Nat) : Int))] W (RPost st1 st2 W))
     :
    Calls Tryz.prog 20 #[NV x, .int .i64 p] w (AnsPost ⟨#[48]⟩ ⟨#[49]⟩ st1 st2 0 w) := by
  have HR := fun W h' => right_in (-((10 ^ 13 : Nat) : Int), 1) (((10 ^ 13 : Nat) : Int), 1) (0, 1) (1, 2) x (.func (.func 62) #[] #[]) p W ⟨_, _, _, .inl rfl⟩ isR_m13 isR_13 hx (by omega) (by omega) h'
  rw [hr] at HR
  have HC1 := fun W h' => rcmp_in x.1 x.2 (-8) 1 W hx.r isR_m8 h'
  have HC2 := fun W h' => rcmp_in x.1 x.2 8 1 W hx.r isR_8 h'
  have HHP := fun W => hasp_in x.1 W
  have HAP := fun W => sat_in p (by omega) W
  rw [decide_eq_true hneg] at HHP
  have d1 : decide (0 < cmpQ x.1 x.2 (-8) 1) = false := decide_eq_false (by omega)
  
  unfold FnV NV at HR
  unfold RV at HC1 HC2
  unfold SV at HAP
  unfold RPost at hmk
  unfold AnsPost NV
  dsimp only at HR
  clear hl hr hx hneg
  have HAT := Lib.hid sat13
  have hfd : ∀ p w, (Instr.field 59 (.agg #[.int .i64 p, .string ⟨#[49, 48, 48, 48, 48, 48, 48, 48, 48, 48, 48, 48, 48, 48]⟩]) 1).run Tryz.prog w = .ok (.string ⟨#[49, 48, 48, 48, 48, 48, 48, 48, 48, 48, 48, 48, 48, 48]⟩) w := fun p w => field_one _ _ w
  have hfe : ∀ (k : Int) (t : ByteArray) w, (Instr.field 59 (.agg #[.int .i64 k, .string t]) 1).run Tryz.prog w = .ok (.string t) w := fun k t w => field_one k t w
  rw [str_m13, str_ten13, str_zero, str_one, str_two] at HR
  rw [str_n8, str_one] at HC1
  rw [str_8, str_one] at HC2
  have hts : ¬ (9223372036854775807 < 1 + (⟨#[49, 48, 48, 48, 48, 48, 48, 48, 48, 48, 48, 48, 48, 48]⟩ : ByteArray).size) := by decide
  generalize (⟨#[49, 48, 48, 48, 48, 48, 48, 48, 48, 48, 48, 48, 48, 48]⟩ : ByteArray) = ten at *
  generalize cmpQ x.1 x.2 (-8) 1 = k1 at *
  generalize cmpQ x.1 x.2 8 1 = k2 at *
  generalize str x.1 = xa at *
  generalize str x.2 = xb at *
  generalize str ((10 ^ p : Nat) : Int) = one at *
  replace HR := Lib.hid HR
  replace HC1 := Lib.hid HC1
  replace HC2 := Lib.hid HC2
  replace HHP := Lib.hid HHP
  replace HAP := Lib.hid HAP
  have HMK := Lib.hid hmk
  clear hmk
  
  
  have HRT := Lib.hid ratio_in
  have HRT3 := Lib.hid (fun W => ratio_in ⟨#[49]⟩ ⟨#[49]⟩ W)
  have x0 := (Bc.nil w).push2 25 (.string xa) (.string xb)
  have x0' := x0.new (.cells #[.string ⟨#[]⟩, .string ⟨#[]⟩, .string ⟨#[]⟩, .string ⟨#[]⟩] 32)
  have o0 := R4.new (w.alloc (.cells #[.string xa, .string xb] 25)) 32 (.string ⟨#[]⟩) (.string ⟨#[]⟩) (.string ⟨#[]⟩) (.string ⟨#[]⟩)
  rw [sizeNew] at o0
  have e0 : ((w.alloc (.cells #[.string xa, .string xb] 25)).alloc (.cells #[.string ⟨#[]⟩, .string ⟨#[]⟩, .string ⟨#[]⟩, .string ⟨#[]⟩] 32)).heap.size = w.heap.size + 1 + 1 := by rw [sizeNew, sizeNew]
  clear x0
  have b0 := x0'.b
  have g0 : Bc ((w.alloc (.cells #[.string xa, .string xb] 25)).alloc (.cells #[.string ⟨#[]⟩, .string ⟨#[]⟩, .string ⟨#[]⟩, .string ⟨#[]⟩] 32)) ([(w.heap.size, 0, .string xa), (w.heap.size, 1, .string xb)]) ((w.alloc (.cells #[.string xa, .string xb] 25)).alloc (.cells #[.string ⟨#[]⟩, .string ⟨#[]⟩, .string ⟨#[]⟩, .string ⟨#[]⟩] 32)) := ⟨Below.refl _ _, fun y hy => x0'.k y (by simpa using hy)⟩
  clear x0'
  have htW := ht.below b0
  go_enter Tryz.func20, Tryz.ntmps20
  go_wp2_with (first
    | (have hchk := g0; clear hchk; go_at_call 46; refine (HAT.out _).mono ?_; rintro e w1 ⟨rfl, hb⟩; have g1 := g0.below hb; clear hb g0)
    | (have hchk := g1; clear hchk; go_at_call 37; refine (HRT.out _ _ _).mono ?_; rintro e w2 ⟨rfl, hb⟩; have g2 := g1.below hb; clear hb g1)
    | (have hchk := g2; clear hchk; go_at_call 46; refine (HAT.out _).mono ?_; rintro e w3 ⟨rfl, hb⟩; have g3 := g2.below hb; clear hb g2)
    | (have hchk := g3; clear hchk; go_at_call 37; refine (HRT.out _ _ _).mono ?_; rintro e w4 ⟨rfl, hb⟩; have g4 := g3.below hb; clear hb g3)
    | (have hchk := g4; clear hchk; go_at_call 37; refine (HRT.out _ _ _).mono ?_; rintro e w5 ⟨rfl, hb⟩; have g5 := g4.below hb; clear hb g4)
    | (have hchk := g5; clear hchk; go_at_call 37; refine (HRT.out _ _ _).mono ?_; rintro e w6 ⟨rfl, hb⟩; have g6 := g5.below hb; clear hb g5))
  have gf := (g6.push9 57 (.string (⟨#[45]⟩ ++ ten)) (.string ⟨#[49]⟩) (.string ten) (.string ⟨#[49]⟩) (.string ⟨#[48]⟩) (.string ⟨#[49]⟩) (.string ⟨#[49]⟩) (.string ⟨#[50]⟩) (.func (.func 62) #[] #[])).sub (l' := [(w.heap.size, 0, .string xa), (w.heap.size, 1, .string xb), (w6.heap.size, 0, .string (⟨#[45]⟩ ++ ten)), (w6.heap.size, 1, .string ⟨#[49]⟩), (w6.heap.size, 2, .string ten), (w6.heap.size, 3, .string ⟨#[49]⟩), (w6.heap.size, 4, .string ⟨#[48]⟩), (w6.heap.size, 5, .string ⟨#[49]⟩), (w6.heap.size, 6, .string ⟨#[49]⟩), (w6.heap.size, 7, .string ⟨#[50]⟩), (w6.heap.size, 8, .func (.func 62) #[] #[])]) (by simp)
  clear g6
  generalize w6.alloc (.cells #[.string (⟨#[45]⟩ ++ ten), .string ⟨#[49]⟩, .string ten, .string ⟨#[49]⟩, .string ⟨#[48]⟩, .string ⟨#[49]⟩, .string ⟨#[49]⟩, .string ⟨#[50]⟩, .func (.func 62) #[] #[]] 57) = W6 at *
  generalize hF : w6.heap.size = R at *
  have S6 : ∀ W, Bc ((w.alloc (.cells #[.string xa, .string xb] 25)).alloc (.cells #[.string ⟨#[]⟩, .string ⟨#[]⟩, .string ⟨#[]⟩, .string ⟨#[]⟩] 32)) ([(w.heap.size, 0, .string xa), (w.heap.size, 1, .string xb), (R, 0, .string (⟨#[45]⟩ ++ ten)), (R, 1, .string ⟨#[49]⟩), (R, 2, .string ten), (R, 3, .string ⟨#[49]⟩), (R, 4, .string ⟨#[48]⟩), (R, 5, .string ⟨#[49]⟩), (R, 6, .string ⟨#[49]⟩), (R, 7, .string ⟨#[50]⟩), (R, 8, .func (.func 62) #[] #[])]) W → (W.cell? ⟨w.heap.size, 0, none⟩ = some (.string xa) ∧ W.cell? ⟨w.heap.size, 1, none⟩ = some (.string xb) ∧ W.cell? ⟨R, 0, none⟩ = some (.string (⟨#[45]⟩ ++ ten)) ∧ W.cell? ⟨R, 1, none⟩ = some (.string ⟨#[49]⟩) ∧ W.cell? ⟨R, 2, none⟩ = some (.string ten) ∧ W.cell? ⟨R, 3, none⟩ = some (.string ⟨#[49]⟩) ∧ W.cell? ⟨R, 4, none⟩ = some (.string ⟨#[48]⟩) ∧ W.cell? ⟨R, 5, none⟩ = some (.string ⟨#[49]⟩) ∧ W.cell? ⟨R, 6, none⟩ = some (.string ⟨#[49]⟩) ∧ W.cell? ⟨R, 7, none⟩ = some (.string ⟨#[50]⟩) ∧ W.cell? ⟨R, 8, none⟩ = some (.func (.func 62) #[] #[])) := fun W h => ⟨h.k (_, _, _) (by simp), h.k (_, _, _) (by simp), h.k (_, _, _) (by simp), h.k (_, _, _) (by simp), h.k (_, _, _) (by simp), h.k (_, _, _) (by simp), h.k (_, _, _) (by simp), h.k (_, _, _) (by simp), h.k (_, _, _) (by simp), h.k (_, _, _) (by simp), h.k (_, _, _) (by simp)⟩
  replace S6 := Lib.hid S6
  have r0 := gf.drew
  clear gf
  refine wp_region_held_drew (S := fun W => W.cell? ⟨w.heap.size, 0, none⟩ = some (.string xa) ∧ W.cell? ⟨w.heap.size, 1, none⟩ = some (.string xb) ∧ W.cell? ⟨R, 0, none⟩ = some (.string (⟨#[45]⟩ ++ ten)) ∧ W.cell? ⟨R, 1, none⟩ = some (.string ⟨#[49]⟩) ∧ W.cell? ⟨R, 2, none⟩ = some (.string ten) ∧ W.cell? ⟨R, 3, none⟩ = some (.string ⟨#[49]⟩) ∧ W.cell? ⟨R, 4, none⟩ = some (.string ⟨#[48]⟩) ∧ W.cell? ⟨R, 5, none⟩ = some (.string ⟨#[49]⟩) ∧ W.cell? ⟨R, 6, none⟩ = some (.string ⟨#[49]⟩) ∧ W.cell? ⟨R, 7, none⟩ = some (.string ⟨#[50]⟩) ∧ W.cell? ⟨R, 8, none⟩ = some (.func (.func 62) #[] #[])) (by kernel_rfl) (S6.out _ r0) (fun hHeld => ?_)
  generalize W6.drew = X at *
  refine wpAnyH_take (i := 0) (oi := ⟨some 21, _, _, _, _, _⟩) (v := ?_) rfl (by kernel_rfl) (by kernel_rfl) (by kernel_rfl) (fun _ _ _ h => h) (Or.inl ⟨by rfl, ?hy0⟩) (by assumption) ?rest0
  case hy0 => (intro w hSw; (try dsimp only at hSw); go_simp; (try with_reducible rfl))
  (try simp only [Act.put, qxwkfa, qxwkfz, qxwkfs])
  refine wpAnyH_take (i := 1) (oi := ⟨some 22, _, _, _, _, _⟩) (v := ?_) rfl (by kernel_rfl) (by kernel_rfl) (by kernel_rfl) (fun _ _ _ h => h) (Or.inl ⟨by rfl, ?hy1⟩) (by assumption) ?rest1
  case hy1 => (intro w hSw; (try dsimp only at hSw); go_simp; (try with_reducible rfl))
  (try simp only [Act.put, qxwkfa, qxwkfz, qxwkfs])
  refine wpAnyH_take (i := 2) (oi := ⟨some 23, _, _, _, _, _⟩) (v := ?_) rfl (by kernel_rfl) (by kernel_rfl) (by kernel_rfl) (fun _ _ _ h => h) (Or.inl ⟨by rfl, ?hy2⟩) (by assumption) ?rest2
  case hy2 => (intro w hSw; (try dsimp only at hSw); go_simp; (try with_reducible rfl))
  (try simp only [Act.put, qxwkfa, qxwkfz, qxwkfs])
  refine wpAnyH_ready (rs := [3]) (by kernel_rfl) (by simp) ?_
  refine AllReadyH.cons (o := ⟨some 24, _, _, _, _, _⟩) rfl (fun K hK => ?_) AllReadyH.nil
  go_simp
  refine (HR.out _ (htW.below r0.b)).mono ?_
  rintro e w7 ⟨rfl, hb⟩
  have r1 := r0.below hb
  clear hb r0
  refine hK.out _ _ (S6.out _ r1) (fun hHeld => ?_)
  clear hK K
  (try simp only [Act.put, qxwkfa, qxwkfz, qxwkfs])
  refine wpAnyH_take (i := 4) (oi := ⟨some 25, _, _, _, _, _⟩) (v := ?_) rfl (by kernel_rfl) (by kernel_rfl) (by kernel_rfl) (fun _ _ _ h => h) (Or.inl ⟨by rfl, ?hy4⟩) (by assumption) ?rest4
  case hy4 => (intro w hSw; (try dsimp only at hSw); go_simp; (try with_reducible rfl))
  (try simp only [Act.put, qxwkfa, qxwkfz, qxwkfs])
  refine wpAnyH_take (i := 5) (oi := ⟨some 26, _, _, _, _, _⟩) (v := ?_) rfl (by kernel_rfl) (by kernel_rfl) (by kernel_rfl) (fun _ _ _ h => h) (Or.inl ⟨by rfl, ?hy5⟩) (by assumption) ?rest5
  case hy5 => (intro w hSw; (try dsimp only at hSw); go_simp; (try with_reducible rfl))
  (try simp only [Act.put, qxwkfa, qxwkfz, qxwkfs])
  refine wpAnyH_take (i := 6) (oi := ⟨some 27, _, _, _, _, _⟩) (v := ?_) rfl (by kernel_rfl) (by kernel_rfl) (by kernel_rfl) (fun _ _ _ h => h) (Or.inl ⟨by rfl, ?hy6⟩) (by assumption) ?rest6
  case hy6 => (intro w hSw; (try dsimp only at hSw); go_simp; (try with_reducible rfl))
  (try simp only [Act.put, qxwkfa, qxwkfz, qxwkfs])
  refine wpAnyH_ready (rs := [7]) (by kernel_rfl) (by simp) ?_
  refine AllReadyH.cons (o := ⟨some 28, _, _, _, _, _⟩) rfl (fun K hK => ?_) AllReadyH.nil
  go_simp
  refine (HRT.out _ _ _).mono ?_
  rintro e w8 ⟨rfl, hb⟩
  have r2 := r1.below hb
  clear hb r1
  refine hK.out _ _ (S6.out _ r2) (fun hHeld => ?_)
  clear hK K
  (try simp only [Act.put, qxwkfa, qxwkfz, qxwkfs])
  refine wpAnyH_ready (rs := [8]) (by kernel_rfl) (by simp) ?_
  refine AllReadyH.cons (o := ⟨some 29, _, _, _, _, _⟩) rfl (fun K hK => ?_) AllReadyH.nil
  go_simp
  refine (HC1.out _ (htW.below r2.b)).mono ?_
  rintro e w9 ⟨rfl, hb⟩
  have r3 := r2.below hb
  clear hb r2
  refine hK.out _ _ (S6.out _ r3) (fun hHeld => ?_)
  clear hK K
  (try simp only [Act.put, qxwkfa, qxwkfz, qxwkfs])
  refine wpAnyH_take (i := 9) (oi := ⟨some 30, _, _, _, _, _⟩) (v := ?_) rfl (by kernel_rfl) (by kernel_rfl) (by kernel_rfl) (fun _ _ _ h => h) (Or.inl ⟨by rfl, ?hy9⟩) (by assumption) ?rest9
  case hy9 => (intro w hSw; (try dsimp only at hSw); go_simp; (try with_reducible rfl))
  (try simp only [Act.put, qxwkfa, qxwkfz, qxwkfs])
  refine wpAnyH_take (i := 10) (oi := ⟨some 31, _, _, _, _, _⟩) (v := ?_) rfl (by kernel_rfl) (by kernel_rfl) (by kernel_rfl) (fun _ _ _ h => h) (Or.inl ⟨by rfl, ?hy10⟩) (by assumption) ?rest10
  case hy10 => (intro w hSw; (try dsimp only at hSw); go_simp; (try with_reducible rfl))
  (try simp only [Act.put, qxwkfa, qxwkfz, qxwkfs])
  refine wpAnyH_take (i := 11) (oi := ⟨some 32, _, _, _, _, _⟩) (v := undef) rfl (by kernel_rfl) (by kernel_rfl) (by kernel_rfl) (fun _ _ _ h => h) (Or.inr ⟨by rfl, rfl⟩) (by assumption) ?_
  (try simp only [Act.put, qxwkfa, qxwkfz, qxwkfs])
  refine wpAnyH_take (i := 12) (oi := ⟨some 33, _, _, _, _, _⟩) (v := undef) rfl (by kernel_rfl) (by kernel_rfl) (by kernel_rfl) (fun _ _ _ h => h) (Or.inr ⟨by rfl, rfl⟩) (by assumption) ?_
  (try simp only [Act.put, qxwkfa, qxwkfz, qxwkfs])
  refine wpAnyH_take (i := 13) (oi := ⟨some 34, _, _, _, _, _⟩) (v := undef) rfl (by kernel_rfl) (by kernel_rfl) (by kernel_rfl) (fun _ _ _ h => h) (Or.inr ⟨by rfl, rfl⟩) (by assumption) ?_
  (try simp only [Act.put, qxwkfa, qxwkfz, qxwkfs])
  refine wpAnyH_take (i := 14) (oi := ⟨some 35, _, _, _, _, _⟩) (v := undef) rfl (by kernel_rfl) (by kernel_rfl) (by kernel_rfl) (fun _ _ _ h => h) (Or.inr ⟨by rfl, rfl⟩) (by assumption) ?_
  (try simp only [Act.put, qxwkfa, qxwkfz, qxwkfs])
  refine wpAnyH_take (i := 15) (oi := ⟨some 36, _, _, _, _, _⟩) (v := ?_) rfl (by kernel_rfl) (by kernel_rfl) (by kernel_rfl) (fun _ _ _ h => h) (Or.inl ⟨by rfl, ?hy15⟩) (by assumption) ?rest15
  case hy15 => (intro w hSw; (try dsimp only at hSw); go_simp; (try with_reducible rfl))
  (try simp only [Act.put, qxwkfa, qxwkfz, qxwkfs])
  refine wpAnyH_take (i := 16) (oi := ⟨some 37, _, _, _, _, _⟩) (v := ?_) rfl (by kernel_rfl) (by kernel_rfl) (by kernel_rfl) (fun _ _ _ h => h) (Or.inl ⟨by rfl, ?hy16⟩) (by assumption) ?rest16
  case hy16 => (intro w hSw; (try dsimp only at hSw); go_simp; (try with_reducible rfl))
  (try simp only [Act.put, qxwkfa, qxwkfz, qxwkfs])
  refine wpAnyH_done (by kernel_rfl) ?_ _
  have g7 := r3.sub (l' := [(w.heap.size, 0, .string xa), (w.heap.size, 1, .string xb)]) (by simp)
  clear r3 S6
  go_wp2_with (first
    | (have hchk := g7; clear hchk; go_at_call 46; refine (HAP.out _).mono ?_; rintro e v1 ⟨rfl, hb⟩; have g8 := g7.below hb; clear hb g7)
    | (have hchk := g8; clear hchk; go_at_call 57; refine (HMK.out _ (htW.below g8.b)).mono ?_; rintro e v2 ⟨rfl, hb⟩; have hz2 := (g8.below hb).b.size; have g9 := (g8.below hb).push2 25 (.string st1) (.string st2); clear hb g8; have z0 := g9.k (w.heap.size, 0, .string xa) (by simp))
    | (go_at_call 63; refine (HHP.out _).mono ?_; rintro e v3 ⟨rfl, rfl⟩; clear z0))
  have g10 := g9.sub (l' := [(w.heap.size, 0, .string xa), (w.heap.size, 1, .string xb), (v2.heap.size, 0, .string st1), (v2.heap.size, 1, .string st2)]) (by simp)
  clear g9
  generalize v2.alloc (.cells #[.string st1, .string st2] 25) = W9 at *
  have oo := (o0.belowB g10.b (by omega)).below (Below.refl _ W9).drew
  have S9 : ∀ W, Bc ((w.alloc (.cells #[.string xa, .string xb] 25)).alloc (.cells #[.string ⟨#[]⟩, .string ⟨#[]⟩, .string ⟨#[]⟩, .string ⟨#[]⟩] 32)) ([(w.heap.size, 0, .string xa), (w.heap.size, 1, .string xb), (v2.heap.size, 0, .string st1), (v2.heap.size, 1, .string st2)]) W → (W.cell? ⟨v2.heap.size, 0, none⟩ = some (.string st1) ∧ W.cell? ⟨v2.heap.size, 1, none⟩ = some (.string st2)) := fun W h => ⟨h.k (_, _, _) (by simp), h.k (_, _, _) (by simp)⟩
  replace S9 := Lib.hid S9
  have q0 := g10.drew
  clear g10
  have hn1 : w.heap.size + 1 ≠ v2.heap.size := by omega
  go_region_held3 (fun W => W.cell? ⟨v2.heap.size, 0, none⟩ = some (.string st1) ∧ W.cell? ⟨v2.heap.size, 1, none⟩ = some (.string st2))
    (first
      | with_reducible exact S9.out _ q0
      | with_reducible exact S9.out _ q1
      | exact ⟨cell_put4 (S9.out _ q1).1 hn1 _ _ _ _, cell_put4 (S9.out _ q1).2 hn1 _ _ _ _⟩) (first
    | (go_at_call 37; refine (HRT.out _ _ (World.drew _)).mono ?_; rintro e v4 ⟨rfl, hb⟩; have q1 := q0.below hb; have o1 := oo.below hb; clear hb; have y0 := o1.c0; have y1 := o1.c1; have y2 := o1.c2; have y3 := o1.c3; have y4 := o1.f))
  all_goals
    go_wp2
    have r5 := o1.put (.string ⟨#[48]⟩) (.string ⟨#[49]⟩) (.string st1) (.string st2)
    refine bodyPost_ret_by (v := .tuple #[.agg #[.string ⟨#[48]⟩, .string ⟨#[49]⟩, .string st1, .string st2], .int .i64 0]) (by simp [results, Tryz.f20, go_sem, r5.c0, r5.c1, r5.c2, r5.c3]) rfl ⟨rfl, below_put4 (b0.trans (q1.b.mono b0.size)) _ _ _ _ (by omega)⟩

set_option maxRecDepth 100000 in
set_option maxHeartbeats 20000000 in
theorem NormalR_of (x : Int × Int) (p : Nat) (st1 st2 l1 l2 : ByteArray) (w : World) (hp : p ≤ 12) (hx : ShortQ x.1 x.2)
    (hl : 0 < cmpQ x.1 x.2 (-8) 1) (hh : 0 ≤ cmpQ x.1 x.2 8 1) (hneg : ¬ x.1 < 0) (hr : rightB (-((10 ^ 13 : Nat) : Int), 1) (((10 ^ 13 : Nat) : Int), 1) x p = true) (ht : TabOf w)
    (hmk : ∀ W, TabOf W → Calls Tryz.prog 57 #[.string ⟨#[49]⟩, .string (str ((10 ^ p : Nat) : Int))] W (RPost st1 st2 W))
    (hsb : ∀ W, TabOf W → Calls Tryz.prog 15 #[.agg #[.string ⟨#[49]⟩, .string ⟨#[49]⟩], .agg #[.string st1, .string st2]] W (RPost l1 l2 W)) :
    Calls Tryz.prog 20 #[NV x, .int .i64 p] w (AnsPost l1 l2 ⟨#[49]⟩ ⟨#[49]⟩ 0 w) := by
  have HR := fun W h' => right_in (-((10 ^ 13 : Nat) : Int), 1) (((10 ^ 13 : Nat) : Int), 1) (0, 1) (1, 2) x (.func (.func 62) #[] #[]) p W ⟨_, _, _, .inl rfl⟩ isR_m13 isR_13 hx (by omega) (by omega) h'
  rw [hr] at HR
  have HC1 := fun W h' => rcmp_in x.1 x.2 (-8) 1 W hx.r isR_m8 h'
  have HC2 := fun W h' => rcmp_in x.1 x.2 8 1 W hx.r isR_8 h'
  have HHP := fun W => hasp_in x.1 W
  have HAP := fun W => sat_in p (by omega) W
  rw [decide_eq_false hneg] at HHP
  have d1 : decide (0 < cmpQ x.1 x.2 (-8) 1) = true := decide_eq_true hl
  have d2 : decide (cmpQ x.1 x.2 8 1 < 0) = false := decide_eq_false (by omega)
  unfold FnV NV at HR
  unfold RV at HC1 HC2
  unfold SV at HAP
  unfold RPost at hmk hsb
  unfold AnsPost NV
  dsimp only at HR
  clear hl hr hx hneg hh
  have HAT := Lib.hid sat13
  have hfd : ∀ p w, (Instr.field 59 (.agg #[.int .i64 p, .string ⟨#[49, 48, 48, 48, 48, 48, 48, 48, 48, 48, 48, 48, 48, 48]⟩]) 1).run Tryz.prog w = .ok (.string ⟨#[49, 48, 48, 48, 48, 48, 48, 48, 48, 48, 48, 48, 48, 48]⟩) w := fun p w => field_one _ _ w
  have hfe : ∀ (k : Int) (t : ByteArray) w, (Instr.field 59 (.agg #[.int .i64 k, .string t]) 1).run Tryz.prog w = .ok (.string t) w := fun k t w => field_one k t w
  rw [str_m13, str_ten13, str_zero, str_one, str_two] at HR
  rw [str_n8, str_one] at HC1
  rw [str_8, str_one] at HC2
  have hts : ¬ (9223372036854775807 < 1 + (⟨#[49, 48, 48, 48, 48, 48, 48, 48, 48, 48, 48, 48, 48, 48]⟩ : ByteArray).size) := by decide
  generalize (⟨#[49, 48, 48, 48, 48, 48, 48, 48, 48, 48, 48, 48, 48, 48]⟩ : ByteArray) = ten at *
  generalize cmpQ x.1 x.2 (-8) 1 = k1 at *
  generalize cmpQ x.1 x.2 8 1 = k2 at *
  generalize str x.1 = xa at *
  generalize str x.2 = xb at *
  generalize str ((10 ^ p : Nat) : Int) = one at *
  replace HR := Lib.hid HR
  replace HC1 := Lib.hid HC1
  replace HC2 := Lib.hid HC2
  replace HHP := Lib.hid HHP
  replace HAP := Lib.hid HAP
  have HMK := Lib.hid hmk
  clear hmk
  have HSB := Lib.hid hsb
  clear hsb
  have HRT := Lib.hid ratio_in
  have HRT3 := Lib.hid (fun W => ratio_in ⟨#[49]⟩ ⟨#[49]⟩ W)
  have x0 := (Bc.nil w).push2 25 (.string xa) (.string xb)
  have x0' := x0.new (.cells #[.string ⟨#[]⟩, .string ⟨#[]⟩, .string ⟨#[]⟩, .string ⟨#[]⟩] 32)
  have o0 := R4.new (w.alloc (.cells #[.string xa, .string xb] 25)) 32 (.string ⟨#[]⟩) (.string ⟨#[]⟩) (.string ⟨#[]⟩) (.string ⟨#[]⟩)
  rw [sizeNew] at o0
  have e0 : ((w.alloc (.cells #[.string xa, .string xb] 25)).alloc (.cells #[.string ⟨#[]⟩, .string ⟨#[]⟩, .string ⟨#[]⟩, .string ⟨#[]⟩] 32)).heap.size = w.heap.size + 1 + 1 := by rw [sizeNew, sizeNew]
  clear x0
  have b0 := x0'.b
  have g0 : Bc ((w.alloc (.cells #[.string xa, .string xb] 25)).alloc (.cells #[.string ⟨#[]⟩, .string ⟨#[]⟩, .string ⟨#[]⟩, .string ⟨#[]⟩] 32)) ([(w.heap.size, 0, .string xa), (w.heap.size, 1, .string xb)]) ((w.alloc (.cells #[.string xa, .string xb] 25)).alloc (.cells #[.string ⟨#[]⟩, .string ⟨#[]⟩, .string ⟨#[]⟩, .string ⟨#[]⟩] 32)) := ⟨Below.refl _ _, fun y hy => x0'.k y (by simpa using hy)⟩
  clear x0'
  have htW := ht.below b0
  go_enter Tryz.func20, Tryz.ntmps20
  go_wp2_with (first
    | (have hchk := g0; clear hchk; go_at_call 46; refine (HAT.out _).mono ?_; rintro e w1 ⟨rfl, hb⟩; have g1 := g0.below hb; clear hb g0)
    | (have hchk := g1; clear hchk; go_at_call 37; refine (HRT.out _ _ _).mono ?_; rintro e w2 ⟨rfl, hb⟩; have g2 := g1.below hb; clear hb g1)
    | (have hchk := g2; clear hchk; go_at_call 46; refine (HAT.out _).mono ?_; rintro e w3 ⟨rfl, hb⟩; have g3 := g2.below hb; clear hb g2)
    | (have hchk := g3; clear hchk; go_at_call 37; refine (HRT.out _ _ _).mono ?_; rintro e w4 ⟨rfl, hb⟩; have g4 := g3.below hb; clear hb g3)
    | (have hchk := g4; clear hchk; go_at_call 37; refine (HRT.out _ _ _).mono ?_; rintro e w5 ⟨rfl, hb⟩; have g5 := g4.below hb; clear hb g4)
    | (have hchk := g5; clear hchk; go_at_call 37; refine (HRT.out _ _ _).mono ?_; rintro e w6 ⟨rfl, hb⟩; have g6 := g5.below hb; clear hb g5))
  have gf := (g6.push9 57 (.string (⟨#[45]⟩ ++ ten)) (.string ⟨#[49]⟩) (.string ten) (.string ⟨#[49]⟩) (.string ⟨#[48]⟩) (.string ⟨#[49]⟩) (.string ⟨#[49]⟩) (.string ⟨#[50]⟩) (.func (.func 62) #[] #[])).sub (l' := [(w.heap.size, 0, .string xa), (w.heap.size, 1, .string xb), (w6.heap.size, 0, .string (⟨#[45]⟩ ++ ten)), (w6.heap.size, 1, .string ⟨#[49]⟩), (w6.heap.size, 2, .string ten), (w6.heap.size, 3, .string ⟨#[49]⟩), (w6.heap.size, 4, .string ⟨#[48]⟩), (w6.heap.size, 5, .string ⟨#[49]⟩), (w6.heap.size, 6, .string ⟨#[49]⟩), (w6.heap.size, 7, .string ⟨#[50]⟩), (w6.heap.size, 8, .func (.func 62) #[] #[])]) (by simp)
  clear g6
  generalize w6.alloc (.cells #[.string (⟨#[45]⟩ ++ ten), .string ⟨#[49]⟩, .string ten, .string ⟨#[49]⟩, .string ⟨#[48]⟩, .string ⟨#[49]⟩, .string ⟨#[49]⟩, .string ⟨#[50]⟩, .func (.func 62) #[] #[]] 57) = W6 at *
  generalize hF : w6.heap.size = R at *
  have S6 : ∀ W, Bc ((w.alloc (.cells #[.string xa, .string xb] 25)).alloc (.cells #[.string ⟨#[]⟩, .string ⟨#[]⟩, .string ⟨#[]⟩, .string ⟨#[]⟩] 32)) ([(w.heap.size, 0, .string xa), (w.heap.size, 1, .string xb), (R, 0, .string (⟨#[45]⟩ ++ ten)), (R, 1, .string ⟨#[49]⟩), (R, 2, .string ten), (R, 3, .string ⟨#[49]⟩), (R, 4, .string ⟨#[48]⟩), (R, 5, .string ⟨#[49]⟩), (R, 6, .string ⟨#[49]⟩), (R, 7, .string ⟨#[50]⟩), (R, 8, .func (.func 62) #[] #[])]) W → (W.cell? ⟨w.heap.size, 0, none⟩ = some (.string xa) ∧ W.cell? ⟨w.heap.size, 1, none⟩ = some (.string xb) ∧ W.cell? ⟨R, 0, none⟩ = some (.string (⟨#[45]⟩ ++ ten)) ∧ W.cell? ⟨R, 1, none⟩ = some (.string ⟨#[49]⟩) ∧ W.cell? ⟨R, 2, none⟩ = some (.string ten) ∧ W.cell? ⟨R, 3, none⟩ = some (.string ⟨#[49]⟩) ∧ W.cell? ⟨R, 4, none⟩ = some (.string ⟨#[48]⟩) ∧ W.cell? ⟨R, 5, none⟩ = some (.string ⟨#[49]⟩) ∧ W.cell? ⟨R, 6, none⟩ = some (.string ⟨#[49]⟩) ∧ W.cell? ⟨R, 7, none⟩ = some (.string ⟨#[50]⟩) ∧ W.cell? ⟨R, 8, none⟩ = some (.func (.func 62) #[] #[])) := fun W h => ⟨h.k (_, _, _) (by simp), h.k (_, _, _) (by simp), h.k (_, _, _) (by simp), h.k (_, _, _) (by simp), h.k (_, _, _) (by simp), h.k (_, _, _) (by simp), h.k (_, _, _) (by simp), h.k (_, _, _) (by simp), h.k (_, _, _) (by simp), h.k (_, _, _) (by simp), h.k (_, _, _) (by simp)⟩
  replace S6 := Lib.hid S6
  have r0 := gf.drew
  clear gf
  go_region_held3 (fun W => W.cell? ⟨w.heap.size, 0, none⟩ = some (.string xa) ∧ W.cell? ⟨w.heap.size, 1, none⟩ = some (.string xb) ∧ W.cell? ⟨R, 0, none⟩ = some (.string (⟨#[45]⟩ ++ ten)) ∧ W.cell? ⟨R, 1, none⟩ = some (.string ⟨#[49]⟩) ∧ W.cell? ⟨R, 2, none⟩ = some (.string ten) ∧ W.cell? ⟨R, 3, none⟩ = some (.string ⟨#[49]⟩) ∧ W.cell? ⟨R, 4, none⟩ = some (.string ⟨#[48]⟩) ∧ W.cell? ⟨R, 5, none⟩ = some (.string ⟨#[49]⟩) ∧ W.cell? ⟨R, 6, none⟩ = some (.string ⟨#[49]⟩) ∧ W.cell? ⟨R, 7, none⟩ = some (.string ⟨#[50]⟩) ∧ W.cell? ⟨R, 8, none⟩ = some (.func (.func 62) #[] #[]))
    (first
      | with_reducible exact S6.out _ r0
      | with_reducible exact S6.out _ r1
      | with_reducible exact S6.out _ r2
      | with_reducible exact S6.out _ r3
      | with_reducible exact S6.out _ r4
      | with_reducible exact S6.out _ r5) (first
    | (have hchk := r0; clear hchk; go_at_call 53; refine (HR.out (World.drew _) (htW.below r0.b)).mono ?_; rintro e w7 ⟨rfl, hb⟩; have r1 := r0.below hb; clear hb r0)
    | (have hchk := r1; clear hchk; go_at_call 37; refine (HRT.out _ _ _).mono ?_; rintro e w8 ⟨rfl, hb⟩; have r2 := r1.below hb; clear hb r1)
    | (have hchk := r2; clear hchk; go_at_call 17; refine (HC1.out _ (htW.below r2.b)).mono ?_; rintro e w9 ⟨rfl, hb⟩; have r3 := r2.below hb; clear hb r2)
    | (have hchk := r3; clear hchk; go_at_call 37; refine (HRT.out _ _ _).mono ?_; rintro e w10 ⟨rfl, hb⟩; have r4 := r3.below hb; clear hb r3)
    | (have hchk := r4; clear hchk; go_at_call 17; refine (HC2.out _ (htW.below r4.b)).mono ?_; rintro e w11 ⟨rfl, hb⟩; have r5 := r4.below hb; clear hb r4))
  have g7 := r5.sub (l' := [(w.heap.size, 0, .string xa), (w.heap.size, 1, .string xb)]) (by simp)
  clear r5 S6
  go_wp2_with (first
    | (have hchk := g7; clear hchk; go_at_call 46; refine (HAP.out _).mono ?_; rintro e v1 ⟨rfl, hb⟩; have g8 := g7.below hb; clear hb g7)
    | (have hchk := g8; clear hchk; go_at_call 57; refine (HMK.out _ (htW.below g8.b)).mono ?_; rintro e v2 ⟨rfl, hb⟩; have hz2 := (g8.below hb).b.size; have g9 := (g8.below hb).push2 25 (.string st1) (.string st2); clear hb g8; have z0 := g9.k (w.heap.size, 0, .string xa) (by simp))
    | (go_at_call 63; refine (HHP.out _).mono ?_; rintro e v3 ⟨rfl, rfl⟩; clear z0))
  have g10 := g9.sub (l' := [(w.heap.size, 0, .string xa), (w.heap.size, 1, .string xb), (v2.heap.size, 0, .string st1), (v2.heap.size, 1, .string st2)]) (by simp)
  clear g9
  generalize v2.alloc (.cells #[.string st1, .string st2] 25) = W9 at *
  rename_i K7 hK7
  have REST7 : ∀ (u11 u12 u13 u14 u15 u16 u17 u18 u19 u20 u21 u22 u23 u24 u25 u26 u27 u28 u29 u30 u31 u32 u33 u34 u35 u36 u37 u38 u39 u40 u41 u42 u43 u44 u45 u46 u47 u48 u49 u50 u51 u52 u53 u54 u55 u56 u57 u58 u59 u60 u61 u62 u63 u64 u65 : Value) (R9 : Nat) (F7 : World), ((w.alloc (.cells #[.string xa, .string xb] 25)).alloc (.cells #[.string ⟨#[]⟩, .string ⟨#[]⟩, .string ⟨#[]⟩, .string ⟨#[]⟩] 32)).heap.size ≤ R9 → Bc ((w.alloc (.cells #[.string xa, .string xb] 25)).alloc (.cells #[.string ⟨#[]⟩, .string ⟨#[]⟩, .string ⟨#[]⟩, .string ⟨#[]⟩] 32)) ([(w.heap.size, 0, .string xa), (w.heap.size, 1, .string xb), (v2.heap.size, 0, .string st1), (v2.heap.size, 1, .string st2)] ++ [(R9, 0, .string l1), (R9, 1, .string l2)]) F7 → K7 { tmps := #[.agg #[.string xa, .string xb], .int .i64 p, .pointer (some ⟨w.heap.size, 0, none⟩), undef, .pointer (some ⟨w.heap.size + 1, 0, none⟩), .int .i64 0, .pointer (some ⟨R, 0, none⟩), .pointer (some ⟨v2.heap.size, 0, none⟩), .int .i64 0, .pointer (some ⟨R9, 0, none⟩), .int .i64 0, u11, u12, u13, u14, u15, u16, u17, u18, u19, u20, u21, u22, u23, u24, u25, u26, u27, u28, u29, u30, u31, u32, u33, u34, u35, u36, u37, u38, u39, u40, u41, u42, u43, u44, u45, u46, u47, u48, u49, u50, u51, u52, u53, u54, u55, u56, u57, u58, u59, u60, u61, u62, u63, u64, u65], defers := [] } F7 := by
    intro u11 u12 u13 u14 u15 u16 u17 u18 u19 u20 u21 u22 u23 u24 u25 u26 u27 u28 u29 u30 u31 u32 u33 u34 u35 u36 u37 u38 u39 u40 u41 u42 u43 u44 u45 u46 u47 u48 u49 u50 u51 u52 u53 u54 u55 u56 u57 u58 u59 u60 u61 u62 u63 u64 u65 R9 F7 hge gin
    have g7 := gin.sub (l' := [(w.heap.size, 0, .string xa), (w.heap.size, 1, .string xb), (v2.heap.size, 0, .string st1), (v2.heap.size, 1, .string st2), (R9, 0, .string l1), (R9, 1, .string l2)]) (by simp)
    clear gin g10
    refine hK7 _ _ ?_
    clear hK7
    have hn1 : w.heap.size + 1 ≠ R9 := by omega
    have oo := (o0.belowB g7.b (by omega)).below (Below.refl _ F7).drew
    go_wp2
    have S9 : ∀ W, Bc ((w.alloc (.cells #[.string xa, .string xb] 25)).alloc (.cells #[.string ⟨#[]⟩, .string ⟨#[]⟩, .string ⟨#[]⟩, .string ⟨#[]⟩] 32)) ([(w.heap.size, 0, .string xa), (w.heap.size, 1, .string xb), (v2.heap.size, 0, .string st1), (v2.heap.size, 1, .string st2), (R9, 0, .string l1), (R9, 1, .string l2)]) W → (W.cell? ⟨R9, 0, none⟩ = some (.string l1) ∧ W.cell? ⟨R9, 1, none⟩ = some (.string l2)) := fun W h => ⟨h.k (_, _, _) (by simp), h.k (_, _, _) (by simp)⟩
    replace S9 := Lib.hid S9
    have q0 := g7.drew
    clear g7
    go_region_held3 (fun W => W.cell? ⟨R9, 0, none⟩ = some (.string l1) ∧ W.cell? ⟨R9, 1, none⟩ = some (.string l2))
      (first
        | with_reducible exact S9.out _ q0
        | with_reducible exact S9.out _ q1
        | exact ⟨cell_put4 (S9.out _ q1).1 hn1 _ _ _ _, cell_put4 (S9.out _ q1).2 hn1 _ _ _ _⟩) (first
      | (go_at_call 37; refine (HRT.out _ _ (World.drew _)).mono ?_; rintro e v4 ⟨rfl, hb⟩; have q1 := q0.below hb; have o1 := oo.below hb; clear hb; have y0 := o1.c0; have y1 := o1.c1; have y2 := o1.c2; have y3 := o1.c3; have y4 := o1.f))
    all_goals
      go_wp2
      have r5 := o1.put (.string l1) (.string l2) (.string ⟨#[49]⟩) (.string ⟨#[49]⟩)
      refine bodyPost_ret_by (v := .tuple #[.agg #[.string l1, .string l2, .string ⟨#[49]⟩, .string ⟨#[49]⟩], .int .i64 0]) (by simp [results, Tryz.f20, go_sem, r5.c0, r5.c1, r5.c2, r5.c3]) rfl ⟨rfl, below_put4 (b0.trans (q1.b.mono b0.size)) _ _ _ _ (by omega)⟩
  clear hK7
  replace REST7 := Lib.hid REST7
  have S7 : ∀ W, Bc ((w.alloc (.cells #[.string xa, .string xb] 25)).alloc (.cells #[.string ⟨#[]⟩, .string ⟨#[]⟩, .string ⟨#[]⟩, .string ⟨#[]⟩] 32)) ([(w.heap.size, 0, .string xa), (w.heap.size, 1, .string xb), (v2.heap.size, 0, .string st1), (v2.heap.size, 1, .string st2)]) W → (W.cell? ⟨v2.heap.size, 0, none⟩ = some (.string st1) ∧ W.cell? ⟨v2.heap.size, 1, none⟩ = some (.string st2)) := fun W h => ⟨h.k (_, _, _) (by simp), h.k (_, _, _) (by simp)⟩
  replace S7 := Lib.hid S7
  have rr := g10
  have r0 := rr.drew
  clear g10
  go_region_held3 (fun W => W.cell? ⟨v2.heap.size, 0, none⟩ = some (.string st1) ∧ W.cell? ⟨v2.heap.size, 1, none⟩ = some (.string st2))
    (first
      | with_reducible exact S7.out _ r0
      | with_reducible exact S7.out _ r1
      | with_reducible exact S7.out _ r2
      | with_reducible exact S7.out _ nb1.b
      | with_reducible exact S7.out _ nb2.b
      | with_reducible exact S7.out _ (rr.new _).drew
      | with_reducible exact S7.out _ (r1.new _)
      | with_reducible exact S7.out _ (r2.new _)
      | exact S7.out _ (nb1.put _ _).left
      | exact S7.out _ (nb2.put _ _).left
      | exact S7.out _ ((Bn.start r1 _ _ _).put _ _).left
      | exact S7.out _ ((Bn.start r2 _ _ _).put _ _).left) (first
    | (have hchk := r0; clear hchk; with_reducible show Calls _ _ _ (World.drew (World.alloc _ _)) _; go_at_call 37; refine (HRT3.out (World.drew (World.alloc _ _)) ).mono ?_; rintro e cv1 ⟨rfl, hb⟩; have nb1 := (Bn.start rr 25 (.string ⟨#[]⟩) (.string ⟨#[]⟩)).drew.below hb; clear hb r0; have cy0 := nb1.n.c00; have cy1 := nb1.n.c01; have cyf := nb1.n.f0)
    | (have hchk := r0; clear hchk; go_at_call 37; refine (HRT3.out (World.drew _) ).mono ?_; rintro e cv1 ⟨rfl, hb⟩; have r1 := r0.below hb; clear hb r0)
    | (have hchk := r1; clear hchk; with_reducible show Calls _ _ _ (World.alloc _ _) _; go_at_call 15; refine (HSB.out (World.alloc _ _) (htW.below (r1.new _).b)).mono ?_; rintro e cv2 ⟨rfl, hb⟩; have nb2 := (Bn.start r1 25 (.string ⟨#[]⟩) (.string ⟨#[]⟩)).below hb; clear hb r1; have cy0 := nb2.n.c00; have cy1 := nb2.n.c01; have cyf := nb2.n.f0)
    | (have hchk := r1; clear hchk; go_at_call 15; refine (HSB.out (_) (htW.below r1.b)).mono ?_; rintro e cv2 ⟨rfl, hb⟩; have r2 := r1.below hb; clear hb r1)
    | (have hchk := nb1; clear hchk; go_at_call 15; refine (HSB.out _ (htW.below nb1.b.b)).mono ?_; rintro e cv2 ⟨rfl, hb⟩; have nb2 := nb1.below hb; clear hb nb1 cy0 cy1 cyf; have cy0 := nb2.n.c00; have cy1 := nb2.n.c01; have cyf := nb2.n.f0))
  all_goals
    first
      | exact REST7.out _ _ _ _ _ _ _ _ _ _ _ _ _ _ _ _ _ _ _ _ _ _ _ _ _ _ _ _ _ _ _ _ _ _ _ _ _ _ _ _ _ _ _ _ _ _ _ _ _ _ _ _ _ _ _ _ _ nb2.ge (nb2.put (.string l1) (.string l2))
      | exact REST7.out _ _ _ _ _ _ _ _ _ _ _ _ _ _ _ _ _ _ _ _ _ _ _ _ _ _ _ _ _ _ _ _ _ _ _ _ _ _ _ _ _ _ _ _ _ _ _ _ _ _ _ _ _ _ _ _ _ r2.b.size (r2.push2 25 (.string l1) (.string l2))
      | exact REST7.out _ _ _ _ _ _ _ _ _ _ _ _ _ _ _ _ _ _ _ _ _ _ _ _ _ _ _ _ _ _ _ _ _ _ _ _ _ _ _ _ _ _ _ _ _ _ _ _ _ _ _ _ _ _ _ _ _ r2.b.size ((Bn.start r2 25 (.string ⟨#[]⟩) (.string ⟨#[]⟩)).put (.string l1) (.string l2))
end Go.Proofs.YtppbhnhmaocdnaaGreatDoor
