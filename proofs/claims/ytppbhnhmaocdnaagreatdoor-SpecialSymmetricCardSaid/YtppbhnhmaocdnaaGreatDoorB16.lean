/- Validity, two numbers at once, sums with sign. -/
import Derived.Test.YtppbhnhmaocdnaaGreatDoorB10
import Derived.Test.YtppbhnhmaocdnaaGreatDoorB12
import Derived.Test.YtppbhnhmaocdnaaGreatDoorB13
import Derived.Test.YtppbhnhmaocdnaaGreatDoorB15
set_option linter.unusedVariables false
set_option linter.unusedSimpArgs false
namespace Go.Proofs.YtppbhnhmaocdnaaGreatDoor
open Go.RowKit Go.Shelf

theorem valid_in (s : ByteArray) (w : World) :
    Calls Tryz.prog 92 #[.string s] w fun e w' => e = .returned (.bool (vld s.data.toList)) ∧ Below w.heap.size w w' := by
  go_enter Tryz.func92, Tryz.ntmps92
  go_wp2_with (go_at_call 121; refine (isValid_in s _).mono ?_; rintro e w' ⟨rfl, hb⟩)
  go_ret
  exact ⟨rfl, hb⟩

def sv (neg : Bool) (m : Nat) : Int := if neg then -(m : Int) else m

theorem sv_of (n : Int) : sv (decide (n < 0)) n.natAbs = n := by
  unfold sv
  by_cases h : n < 0 <;> simp [h] <;> omega

structure TwoC (w W : World) (a b c d : Value) : Prop where
  c00 : W.cell? ⟨w.heap.size, 0, none⟩ = some a
  c01 : W.cell? ⟨w.heap.size, 1, none⟩ = some b
  c10 : W.cell? ⟨w.heap.size + 1, 0, none⟩ = some c
  c11 : W.cell? ⟨w.heap.size + 1, 1, none⟩ = some d
  f0 : ∀ j, W.frozen? ⟨w.heap.size, j, none⟩ = false
  f1 : ∀ j, W.frozen? ⟨w.heap.size + 1, j, none⟩ = false
  b : Below w.heap.size w W

theorem TwoC.start (w : World) (t : TypeId) (a b c d : Value) : TwoC w ((w.alloc (.cells #[a, b] t)).alloc (.cells #[c, d] t)) a b c d := by
  have hsz1 := sizeNew w (.cells #[a, b] t)
  exact ⟨cellOld (by rw [hsz1]; show w.heap.size < _; omega) (cellAt w _ _ 0 _ rfl), cellOld (by rw [hsz1]; show w.heap.size < _; omega) (cellAt w _ _ 1 _ rfl), cellAt _ _ _ 0 _ hsz1.symm, cellAt _ _ _ 1 _ hsz1.symm, fun j => frozenOld (by rw [hsz1]; show w.heap.size < _; omega) (frozenNew w _ _ j _ rfl), fun j => frozenNew _ _ _ j _ hsz1.symm, (belowNew w _).trans ((belowNew _ _).mono (by rw [hsz1]; omega))⟩

theorem TwoC.below {w W W' : World} {a b c d : Value} (h : TwoC w W a b c d) (hb : Below W.heap.size W W') : TwoC w W' a b c d :=
  ⟨Below.get hb h.c00, Below.get hb h.c01, Below.get hb h.c10, Below.get hb h.c11, fun j => (hb.frozen (p := ⟨w.heap.size, j, none⟩) (ltOf h.c00)).trans (h.f0 j), fun j => (hb.frozen (p := ⟨w.heap.size + 1, j, none⟩) (ltOf h.c10)).trans (h.f1 j), h.b.trans (hb.mono h.b.size)⟩

theorem TwoC.put0 {w W : World} {a b c d : Value} (h : TwoC w W a b c d) (a' b' : Value) : TwoC w ((W.setCell ⟨w.heap.size, 0, none⟩ a').setCell ⟨w.heap.size, 1, none⟩ b') a' b' c d :=
  ⟨setOff (setSame h.c00 _) (by decide) _, setSame (setOff h.c01 (by decide) _) _, setOther (setOther h.c10 (by omega) _) (by omega) _, setOther (setOther h.c11 (by omega) _) (by omega) _,
    fun j => by rw [World.frozen?_setCell, World.frozen?_setCell]; exact h.f0 j, fun j => by rw [World.frozen?_setCell, World.frozen?_setCell]; exact h.f1 j,
    (h.b.setCell (p := ⟨w.heap.size, 0, none⟩) (Nat.le_refl _) _).setCell (p := ⟨w.heap.size, 1, none⟩) (Nat.le_refl _) _⟩

theorem TwoC.put1 {w W : World} {a b c d : Value} (h : TwoC w W a b c d) (c' d' : Value) : TwoC w ((W.setCell ⟨w.heap.size + 1, 0, none⟩ c').setCell ⟨w.heap.size + 1, 1, none⟩ d') a b c' d' :=
  ⟨setOther (setOther h.c00 (by omega) _) (by omega) _, setOther (setOther h.c01 (by omega) _) (by omega) _, setOff (setSame h.c10 _) (by decide) _, setSame (setOff h.c11 (by decide) _) _,
    fun j => by rw [World.frozen?_setCell, World.frozen?_setCell]; exact h.f0 j, fun j => by rw [World.frozen?_setCell, World.frozen?_setCell]; exact h.f1 j,
    (h.b.setCell (p := ⟨w.heap.size + 1, 0, none⟩) (by show w.heap.size ≤ w.heap.size + 1; omega) _).setCell (p := ⟨w.heap.size + 1, 1, none⟩) (by show w.heap.size ≤ w.heap.size + 1; omega) _⟩

theorem vld_str {n : Int} (h : n.natAbs < big) : vld (str n).data.toList = true := by
  rw [str_list, vld_itoa]; exact decide_eq_true h

def BothPost (w : World) (n m : Int) (e : Ending) (w' : World) : Prop :=
  ∃ v u, e = .returned (.tuple #[.agg #[.bool (decide (n < 0)), v], .agg #[.bool (decide (m < 0)), u], .bool true]) ∧ Reads w' v (digs n.natAbs) ∧ Reads w' u (digs m.natAbs) ∧ Below w.heap.size w w'

theorem Reads.put2 {W : World} {v : Value} {xs : List Nat} (h : Reads W v xs) {w : World} {a b c d : Value} (ht : TwoC w W a b c d) (hv : ∀ B n k, v = .slice (some B) n k → w.heap.size + 2 ≤ B.block) (a' b' c' d' : Value) :
    Reads ((((W.setCell ⟨w.heap.size, 0, none⟩ a').setCell ⟨w.heap.size, 1, none⟩ b').setCell ⟨w.heap.size + 1, 0, none⟩ c').setCell ⟨w.heap.size + 1, 1, none⟩ d') v xs :=
  (((h.setBlock (fun a n c e => by have := hv a n c e; omega) _).setBlock (fun a n c e => by have := hv a n c e; omega) _).setBlock (fun a n c e => by have := hv a n c e; omega) _).setBlock (fun a n c e => by have := hv a n c e; omega) _

set_option maxRecDepth 100000 in
set_option maxHeartbeats 1000000 in
theorem both_ok (n m : Int) (w : World) (hn : n.natAbs < big) (hm : m.natAbs < big) :
    Calls Tryz.prog 78 #[.string (str n), .string (str m)] w (BothPost w n m) := by
  have HA := Lib.hid (isValid_in (str n))
  have HB := Lib.hid (isValid_in (str m))
  have HC := Lib.hid (fun W => parse_in n W hn)
  have HD := Lib.hid (fun W => parse_in m W hm)
  rw [vld_str hn] at HA
  rw [vld_str hm] at HB
  have h0 := TwoC.start w 97 (.bool false) (.slice none 0 0) (.bool false) (.slice none 0 0)
  have HBP := Lib.hid (show ∀ e w', (∃ v u, e = .returned (.tuple #[.agg #[.bool (decide (n < 0)), v], .agg #[.bool (decide (m < 0)), u], .bool true]) ∧ Reads w' v (digs n.natAbs) ∧ Reads w' u (digs m.natAbs) ∧ Below w.heap.size w w') → BothPost w n m e w' from fun e w' h => h)
  generalize hs : str n = s at *
  generalize ht : str m = t at *
  clear hs ht hn hm
  go_enter Tryz.func78, Tryz.ntmps78
  go_wp2_with first
    | (have HA1 := HA; go_at_call 121; refine (HA1.out _).mono ?_; clear HA HA1; rintro e w1 ⟨rfl, hb1⟩; have h1 := h0.below hb1)
    | (have HA1 := HB; go_at_call 121; refine (HA1.out _).mono ?_; clear HB HA1; rintro e w2 ⟨rfl, hb2⟩; have h2 := h1.below hb2)
    | (have HA1 := HC; go_at_call 122; refine (HA1.out _).mono ?_; clear HC HA1; rintro e w3 ⟨v, rfl, hr3, hf3, hb3⟩; have h3 := h2.below hb3)
    | (have HA1 := HD; go_at_call 122; refine (HA1.out _).mono ?_; clear HD HA1; rintro e w4 ⟨u, rfl, hr4, hf4, hb4⟩; have hr5 := hr3.below hb4; have h4 := h3.below hb4; obtain ⟨av, cv, rfl, _⟩ := hr3.shape; obtain ⟨au, cu, rfl, _⟩ := hr4.shape; have c00 := h4.c00; have c01 := h4.c01; have c10 := h4.c10; have c11 := h4.c11; have f0 := h4.f0; have f1 := h4.f1)
  have hz2 : w.heap.size + 2 ≤ w2.heap.size := ltOf h2.c10
  have hz3 : w.heap.size + 2 ≤ w3.heap.size := ltOf h3.c10
  have h5 := (h4.put0 (.bool (decide (n < 0))) (.slice av (digs n.natAbs).length cv)).put1 (.bool (decide (m < 0))) (.slice au (digs m.natAbs).length cu)
  refine bodyPost_ret_by (v := .tuple #[.agg #[.bool (decide (n < 0)), .slice av (digs n.natAbs).length cv], .agg #[.bool (decide (m < 0)), .slice au (digs m.natAbs).length cu], .bool true]) (by simp [results, Tryz.f78, go_sem, h5.c00, h5.c01, h5.c10, h5.c11]) rfl (HBP.out _ _ ⟨_, _, rfl, ?_, ?_, h5.b⟩)
  · exact Reads.put2 hr5 h4 (fun B n k e => by have := hf3 B n k e; omega) _ _ _ _
  · exact Reads.put2 hr4 h4 (fun B n k e => by have := hf4 B n k e; omega) _ _ _ _
end Go.Proofs.YtppbhnhmaocdnaaGreatDoor
