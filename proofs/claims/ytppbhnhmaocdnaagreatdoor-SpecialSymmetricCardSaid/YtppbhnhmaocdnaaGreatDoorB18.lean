/- Sums with sign. -/
import Derived.Test.YtppbhnhmaocdnaaGreatDoorB16
import Derived.Deep.RegionHeld3
set_option linter.unusedVariables false
set_option linter.unusedSimpArgs false
namespace Go.Proofs.YtppbhnhmaocdnaaGreatDoor
open Go.RowKit Go.Shelf

def SvPost (w : World) (n : Int) (e : Ending) (w' : World) : Prop :=
  ∃ r z c, e = .returned (.agg #[.bool r, z]) ∧ Reads w' z (digs c) ∧ sv r c = n ∧ From w.heap.size z ∧ Below w.heap.size w w'

structure OneC (w : World) (B : Nat) (W : World) (a b : Value) : Prop where
  c00 : W.cell? ⟨B, 0, none⟩ = some a
  c01 : W.cell? ⟨B, 1, none⟩ = some b
  f0 : ∀ j, W.frozen? ⟨B, j, none⟩ = false
  hB : w.heap.size ≤ B
  b : Below w.heap.size w W

theorem OneC.new {w : World} {W : World} (hb : Below w.heap.size w W) (t : TypeId) (a b : Value) : OneC w W.heap.size (W.alloc (.cells #[a, b] t)) a b :=
  ⟨cellAt _ _ _ 0 _ rfl, cellAt _ _ _ 1 _ rfl, fun j => frozenNew _ _ _ j _ rfl, hb.size, hb.trans ((belowNew _ _).mono hb.size)⟩

theorem OneC.below {w W W' : World} {B : Nat} {a b : Value} (h : OneC w B W a b) (hb : Below W.heap.size W W') : OneC w B W' a b :=
  ⟨Below.get hb h.c00, Below.get hb h.c01, fun j => (hb.frozen (p := ⟨B, j, none⟩) (ltOf h.c00)).trans (h.f0 j), h.hB, h.b.trans (hb.mono h.b.size)⟩

theorem OneC.put {w W : World} {B : Nat} {a b : Value} (h : OneC w B W a b) (a' b' : Value) : OneC w B ((W.setCell ⟨B, 0, none⟩ a').setCell ⟨B, 1, none⟩ b') a' b' :=
  ⟨setOff (setSame h.c00 _) (by decide) _, setSame (setOff h.c01 (by decide) _) _,
    fun j => by rw [World.frozen?_setCell, World.frozen?_setCell]; exact h.f0 j, h.hB,
    (h.b.setCell (p := ⟨B, 0, none⟩) h.hB _).setCell (p := ⟨B, 1, none⟩) h.hB _⟩

theorem Reads.putOne {W : World} {v : Value} {xs : List Nat} (h : Reads W v xs) {B : Nat} (hv : ∀ A n k, v = .slice (some A) n k → A.block ≠ B) (a' b' : Value) :
    Reads ((W.setCell ⟨B, 0, none⟩ a').setCell ⟨B, 1, none⟩ b') v xs :=
  (h.setBlock hv _).setBlock hv _

set_option maxRecDepth 100000 in
set_option maxHeartbeats 4000000 in
theorem splus_same (p : Bool) (v u : Value) (a b : Nat) (w : World) (h1 : Reads w v (digs a)) (h2 : Reads w u (digs b)) (l1 : (digs a).length ≤ 10000) (l2 : (digs b).length ≤ 10000) :
    Calls Tryz.prog 79 #[.agg #[.bool p, v], .agg #[.bool p, u]] w (SvPost w (sv p a + sv p b)) := by
  obtain ⟨av, cv, rfl, _⟩ := h1.shape
  obtain ⟨au, cu, rfl, _⟩ := h2.shape
  have g1 := OneC.new (Below.refl w.heap.size w) 97 (.bool p) (.slice av (digs a).length cv)
  have g2 := OneC.new g1.b 97 (.bool p) (.slice au (digs b).length cu)
  have g3 := OneC.new g2.b 97 (.bool false) (.slice none 0 0)
  have k1 := (g1.below (belowNew _ (.cells #[.bool p, .slice au (digs b).length cu] 97))).below (belowNew _ (.cells #[.bool false, .slice none 0 0] 97))
  have k2 := g2.below (belowNew _ (.cells #[.bool false, .slice none 0 0] 97))
  have r1 := ((h1.below (belowNew _ (.cells #[.bool p, .slice av (digs a).length cv] 97))).below (belowNew _ (.cells #[.bool p, .slice au (digs b).length cu] 97))).below (belowNew _ (.cells #[.bool false, .slice none 0 0] 97))
  have r2 := ((h2.below (belowNew _ (.cells #[.bool p, .slice av (digs a).length cv] 97))).below (belowNew _ (.cells #[.bool p, .slice au (digs b).length cu] 97))).below (belowNew _ (.cells #[.bool false, .slice none 0 0] 97))
  rw [sizeNew] at g2 k2
  rw [sizeNew, sizeNew] at g3
  have HC : ∀ W, Reads W (.slice av (digs a).length cv) (digs a) → Reads W (.slice au (digs b).length cu) (digs b) → Calls Tryz.prog 98 #[.slice av (digs a).length cv, .slice au (digs b).length cu] W fun e w' => e = .returned (.int .i64 (cmpI a b)) ∧ Below W.heap.size W w' := fun W x y => compare_in _ _ a b W x y l1 l2
  have HC := Lib.hid HC
  have HL1 := Lib.hid l1
  have HL2 := Lib.hid l2
  clear l1 l2 h1 h2 g1 g2
  have hp : (p == p) = true := by cases p <;> rfl
  have HP := Lib.hid (show sv p (a + b) = sv p a + sv p b by cases p <;> simp [sv] <;> omega)
  generalize sv p a + sv p b = N at *
  go_enter Tryz.func79, Tryz.ntmps79
  have i00 := k1.c00
  have i01 := k1.c01
  have j00 := k2.c00
  have j01 := k2.c01
  go_wp2_with fail
  go_region_held3 (fun W => W.cell? ⟨w.heap.size, 0, none⟩ = some (.bool p) ∧ W.cell? ⟨w.heap.size, 1, none⟩ = some (.slice av (digs a).length cv) ∧ W.cell? ⟨w.heap.size + 1, 0, none⟩ = some (.bool p) ∧ W.cell? ⟨w.heap.size + 1, 1, none⟩ = some (.slice au (digs b).length cu)) (first | exact ⟨i00, i01, j00, j01⟩ | exact ⟨l00, l01, l10, l11⟩ | exact ⟨setOther (setOther l00 (by omega) _) (by omega) _, setOther (setOther l01 (by omega) _) (by omega) _, setOther (setOther l10 (by omega) _) (by omega) _, setOther (setOther l11 (by omega) _) (by omega) _⟩) ((go_at_call 95; refine (plus_in _ _ a b _ (by exact r1) (by exact r2) HL1.out HL2.out).mono ?_; rintro e w' ⟨v, rfl, hr, hf, hb⟩; have hb := Below.of_drew hb; obtain ⟨ar, cr, rfl, _⟩ := hr.shape; have k3 := g3.below hb; have k4 := k1.below hb; have hf3 : From (w.heap.size + 1 + 1 + 1) _ := hf.mono (by exact ltOf g3.c00); have c00 := k3.c00; have c01 := k3.c01; have f0 := k3.f0; have l00 := k4.c00; have l01 := k4.c01; have k6 := k2.below hb; have l10 := k6.c00; have l11 := k6.c01))
  all_goals
    go_wp2
    have k5 := k3.put (.bool p) (.slice ar (digs (a + b)).length cr)
    refine bodyPost_ret_by (v := .agg #[.bool p, .slice ar (digs (a + b)).length cr]) (by simp [results, Tryz.f79, go_sem, k5.c00, k5.c01]) rfl ⟨_, _, _, rfl, Reads.putOne hr (fun A n k e => by have := hf3 A n k e; omega) _ _, HP.out, hf3.mono (by omega), k5.b⟩

set_option maxRecDepth 100000 in
set_option maxHeartbeats 4000000 in
theorem splus_lt (p : Bool) (v u : Value) (a b : Nat) (w : World) (h1 : Reads w v (digs a)) (h2 : Reads w u (digs b)) (l1 : (digs a).length ≤ 10000) (l2 : (digs b).length ≤ 10000) (hlt : a < b) :
    Calls Tryz.prog 79 #[.agg #[.bool p, v], .agg #[.bool (!p), u]] w (SvPost w (sv p a + sv (!p) b)) := by
  obtain ⟨av, cv, rfl, _⟩ := h1.shape
  obtain ⟨au, cu, rfl, _⟩ := h2.shape
  have g1 := OneC.new (Below.refl w.heap.size w) 97 (.bool p) (.slice av (digs a).length cv)
  have g2 := OneC.new g1.b 97 (.bool (!p)) (.slice au (digs b).length cu)
  have g3 := OneC.new g2.b 97 (.bool false) (.slice none 0 0)
  have k1 := (g1.below (belowNew _ (.cells #[.bool (!p), .slice au (digs b).length cu] 97))).below (belowNew _ (.cells #[.bool false, .slice none 0 0] 97))
  have k2 := g2.below (belowNew _ (.cells #[.bool false, .slice none 0 0] 97))
  have r1 := ((h1.below (belowNew _ (.cells #[.bool p, .slice av (digs a).length cv] 97))).below (belowNew _ (.cells #[.bool (!p), .slice au (digs b).length cu] 97))).below (belowNew _ (.cells #[.bool false, .slice none 0 0] 97))
  have r2 := ((h2.below (belowNew _ (.cells #[.bool p, .slice av (digs a).length cv] 97))).below (belowNew _ (.cells #[.bool (!p), .slice au (digs b).length cu] 97))).below (belowNew _ (.cells #[.bool false, .slice none 0 0] 97))
  rw [sizeNew] at g2 k2
  rw [sizeNew, sizeNew] at g3
  have HC : ∀ W, Reads W (.slice av (digs a).length cv) (digs a) → Reads W (.slice au (digs b).length cu) (digs b) → Calls Tryz.prog 98 #[.slice av (digs a).length cv, .slice au (digs b).length cu] W fun e w' => e = .returned (.int .i64 (cmpI a b)) ∧ Below W.heap.size W w' := fun W x y => compare_in _ _ a b W x y l1 l2
  have HC := Lib.hid HC
  have HL1 := Lib.hid l1
  have HL2 := Lib.hid l2
  clear l1 l2 h1 h2 g1 g2
  have HCC : cmpI a b = -1 := by unfold cmpI; rw [if_pos (by omega)]
  rw [HCC] at HC
  have HP := Lib.hid (show sv (!p) (b - a) = sv p a + sv (!p) b by cases p <;> simp [sv] <;> omega)
  have HLT := Lib.hid hlt
  generalize sv p a + sv (!p) b = N at *
  have hp : (p == !p) = false := by cases p <;> rfl
  generalize hq : (!p) = q at *
  clear hq HCC hlt
  have i00 := k1.c00
  have i01 := k1.c01
  have j00 := k2.c00
  have j01 := k2.c01
  go_enter Tryz.func79, Tryz.ntmps79
  go_wp2_with (go_at_call 98; refine (HC.out _ (by exact r1) (by exact r2)).mono ?_; rintro e w1 ⟨rfl, hb1⟩; have m1 := k1.below hb1; have m2 := k2.below hb1; have m3 := g3.below hb1; have x1 := r1.below hb1; have x2 := r2.below hb1; have i00 := m1.c00; have i01 := m1.c01; have j00 := m2.c00; have j01 := m2.c01)
  go_region_held3 (fun W => W.cell? ⟨w.heap.size, 0, none⟩ = some (.bool p) ∧ W.cell? ⟨w.heap.size, 1, none⟩ = some (.slice av (digs a).length cv) ∧ W.cell? ⟨w.heap.size + 1, 0, none⟩ = some (.bool q) ∧ W.cell? ⟨w.heap.size + 1, 1, none⟩ = some (.slice au (digs b).length cu)) (first | exact ⟨i00, i01, j00, j01⟩ | exact ⟨l00, l01, l10, l11⟩ | exact ⟨setOther (setOther l00 (by omega) _) (by omega) _, setOther (setOther l01 (by omega) _) (by omega) _, setOther (setOther l10 (by omega) _) (by omega) _, setOther (setOther l11 (by omega) _) (by omega) _⟩) ((go_at_call 97; refine (minus_in _ _ b a _ (by exact x2) (by exact x1) HL2.out (Nat.le_of_lt HLT.out)).mono ?_; rintro e w' ⟨v, rfl, hr, hf, hb⟩; have hb := Below.of_drew hb; obtain ⟨ar, cr, rfl, _⟩ := hr.shape; have k3 := m3.below hb; have n1 := m1.below hb; have n2 := m2.below hb; have hf3 : From (w.heap.size + 1 + 1 + 1) _ := hf.mono (by exact ltOf m3.c00); have c00 := k3.c00; have c01 := k3.c01; have f0 := k3.f0; have l00 := n1.c00; have l01 := n1.c01; have l10 := n2.c00; have l11 := n2.c01))
  all_goals
    go_wp2
    have k5 := k3.put (.bool q) (.slice ar (digs (b - a)).length cr)
    refine bodyPost_ret_by (v := .agg #[.bool q, .slice ar (digs (b - a)).length cr]) (by simp [results, Tryz.f79, go_sem, k5.c00, k5.c01]) rfl ⟨_, _, _, rfl, Reads.putOne hr (fun A n k e => by have := hf3 A n k e; omega) _ _, HP.out, hf3.mono (by omega), k5.b⟩

set_option maxRecDepth 100000 in
set_option maxHeartbeats 4000000 in
theorem splus_ge (p : Bool) (v u : Value) (a b : Nat) (w : World) (h1 : Reads w v (digs a)) (h2 : Reads w u (digs b)) (l1 : (digs a).length ≤ 10000) (l2 : (digs b).length ≤ 10000) (hge : b ≤ a) :
    Calls Tryz.prog 79 #[.agg #[.bool p, v], .agg #[.bool (!p), u]] w (SvPost w (sv p a + sv (!p) b)) := by
  obtain ⟨av, cv, rfl, _⟩ := h1.shape
  obtain ⟨au, cu, rfl, _⟩ := h2.shape
  have g1 := OneC.new (Below.refl w.heap.size w) 97 (.bool p) (.slice av (digs a).length cv)
  have g2 := OneC.new g1.b 97 (.bool (!p)) (.slice au (digs b).length cu)
  have g3 := OneC.new g2.b 97 (.bool false) (.slice none 0 0)
  have k1 := (g1.below (belowNew _ (.cells #[.bool (!p), .slice au (digs b).length cu] 97))).below (belowNew _ (.cells #[.bool false, .slice none 0 0] 97))
  have k2 := g2.below (belowNew _ (.cells #[.bool false, .slice none 0 0] 97))
  have r1 := ((h1.below (belowNew _ (.cells #[.bool p, .slice av (digs a).length cv] 97))).below (belowNew _ (.cells #[.bool (!p), .slice au (digs b).length cu] 97))).below (belowNew _ (.cells #[.bool false, .slice none 0 0] 97))
  have r2 := ((h2.below (belowNew _ (.cells #[.bool p, .slice av (digs a).length cv] 97))).below (belowNew _ (.cells #[.bool (!p), .slice au (digs b).length cu] 97))).below (belowNew _ (.cells #[.bool false, .slice none 0 0] 97))
  rw [sizeNew] at g2 k2
  rw [sizeNew, sizeNew] at g3
  have HC : ∀ W, Reads W (.slice av (digs a).length cv) (digs a) → Reads W (.slice au (digs b).length cu) (digs b) → Calls Tryz.prog 98 #[.slice av (digs a).length cv, .slice au (digs b).length cu] W fun e w' => e = .returned (.int .i64 (cmpI a b)) ∧ Below W.heap.size W w' := fun W x y => compare_in _ _ a b W x y l1 l2
  have HC := Lib.hid HC
  have HL1 := Lib.hid l1
  have HL2 := Lib.hid l2
  clear l1 l2 h1 h2 g1 g2
  have HCC : ((0 : Int) ≤ cmpI a b) := by unfold cmpI; rw [if_neg (by omega)]; split <;> decide
  have HP := Lib.hid (show sv p (a - b) = sv p a + sv (!p) b by cases p <;> simp [sv] <;> omega)
  have HLT := Lib.hid hge
  generalize sv p a + sv (!p) b = N at *
  generalize cmpI a b = cc at *
  have hcc : decide ((0 : Int) ≤ cc) = true := decide_eq_true HCC
  clear hge
  have hp : (p == !p) = false := by cases p <;> rfl
  generalize hq : (!p) = q at *
  clear hq
  have i00 := k1.c00
  have i01 := k1.c01
  have j00 := k2.c00
  have j01 := k2.c01
  go_enter Tryz.func79, Tryz.ntmps79
  go_wp2_with (go_at_call 98; refine (HC.out _ (by exact r1) (by exact r2)).mono ?_; rintro e w1 ⟨rfl, hb1⟩; have m1 := k1.below hb1; have m2 := k2.below hb1; have m3 := g3.below hb1; have x1 := r1.below hb1; have x2 := r2.below hb1; have i00 := m1.c00; have i01 := m1.c01; have j00 := m2.c00; have j01 := m2.c01)
  go_region_held3 (fun W => W.cell? ⟨w.heap.size, 0, none⟩ = some (.bool p) ∧ W.cell? ⟨w.heap.size, 1, none⟩ = some (.slice av (digs a).length cv) ∧ W.cell? ⟨w.heap.size + 1, 0, none⟩ = some (.bool q) ∧ W.cell? ⟨w.heap.size + 1, 1, none⟩ = some (.slice au (digs b).length cu)) (first | exact ⟨i00, i01, j00, j01⟩ | exact ⟨l00, l01, l10, l11⟩ | exact ⟨setOther (setOther l00 (by omega) _) (by omega) _, setOther (setOther l01 (by omega) _) (by omega) _, setOther (setOther l10 (by omega) _) (by omega) _, setOther (setOther l11 (by omega) _) (by omega) _⟩) ((go_at_call 97; refine (minus_in _ _ a b _ (by exact x1) (by exact x2) HL1.out HLT.out).mono ?_; rintro e w' ⟨v, rfl, hr, hf, hb⟩; have hb := Below.of_drew hb; obtain ⟨ar, cr, rfl, _⟩ := hr.shape; have k3 := m3.below hb; have n1 := m1.below hb; have n2 := m2.below hb; have hf3 : From (w.heap.size + 1 + 1 + 1) _ := hf.mono (by exact ltOf m3.c00); have c00 := k3.c00; have c01 := k3.c01; have f0 := k3.f0; have l00 := n1.c00; have l01 := n1.c01; have l10 := n2.c00; have l11 := n2.c01))
  all_goals
    go_wp2
    have k5 := k3.put (.bool p) (.slice ar (digs (a - b)).length cr)
    refine bodyPost_ret_by (v := .agg #[.bool p, .slice ar (digs (a - b)).length cr]) (by simp [results, Tryz.f79, go_sem, k5.c00, k5.c01]) rfl ⟨_, _, _, rfl, Reads.putOne hr (fun A n k e => by have := hf3 A n k e; omega) _ _, HP.out, hf3.mono (by omega), k5.b⟩

theorem splus_in (p q : Bool) (v u : Value) (a b : Nat) (w : World) (h1 : Reads w v (digs a)) (h2 : Reads w u (digs b)) (l1 : (digs a).length ≤ 10000) (l2 : (digs b).length ≤ 10000) :
    Calls Tryz.prog 79 #[.agg #[.bool p, v], .agg #[.bool q, u]] w (SvPost w (sv p a + sv q b)) := by
  by_cases h : q = p
  · subst h; exact splus_same q v u a b w h1 h2 l1 l2
  · have : q = !p := by cases p <;> cases q <;> simp_all
    subst this
    rcases Nat.lt_or_ge a b with hlt | hge
    · exact splus_lt p v u a b w h1 h2 l1 l2 hlt
    · exact splus_ge p v u a b w h1 h2 l1 l2 hge
end Go.Proofs.YtppbhnhmaocdnaaGreatDoor
