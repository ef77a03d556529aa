/- Walks and lemmas: Intervals of fractions: what they contain; points; the door of errors while nothing fails. Intervals: the door of errors, while nothing fails. Intervals: width, rounding. Intervals: rounding. Special functions: their arithmetic on strings. Special functions: the methods of a scale. PRINTED by wip/gm.py. Special functions: roots and pi. The terms of a series: an endless iterator. The sum of a series: is a term the last one? -/
import Derived.Defers
import Derived.Recover
import Derived.Test.YtppbhnhmaocdnaaGreatDoorB20
import Derived.Deep.RegionHeld3
import Derived.RangeFuncNested
import Derived.RangeFuncBox
import Derived.RangeFuncCalls
import Derived.OwnWalkIn
import Derived.TacticsInMore
import Derived.LoopNIn
import Derived.LoopIn
import Derived.Test.YtppbhnhmaocdnaaGreatDoorB04
import Derived.BigQuiet
set_option linter.unusedVariables false
set_option linter.unusedSimpArgs false
namespace Go.Proofs.YtppbhnhmaocdnaaGreatDoor
theorem qb21a {α : Type _} (l : List α) (i : Nat) (a : α) : l.toArray.setIfInBounds i a = (l.set i a).toArray := List.setIfInBounds_toArray ..
theorem qb21z {α : Type _} {x : α} {xs : List α} {a : α} : (x :: xs).set 0 a = a :: xs := rfl
theorem qb21s {α : Type _} {x : α} {xs : List α} {i : Nat} {a : α} : (x :: xs).set (i + 1) a = x :: xs.set i a := rfl
open Go.RowKit Go.Shelf

def inQ (n1 d1 n2 d2 n d : Int) : Bool := decide (cmpQ n1 d1 n d ≤ 0) && decide (cmpQ n d n2 d2 ≤ 0)

set_option maxRecDepth 100000 in
set_option maxHeartbeats 4000000 in
theorem contains_in (n1 d1 n2 d2 n d : Int) (w : World) (h1 : IsR n1 d1) (h2 : IsR n2 d2) (h3 : IsR n d) (hle : cmpQ n1 d1 n2 d2 ≤ 0) (ht : TabOf w) :
    Calls Tryz.prog 32 #[IV n1 d1 n2 d2, RV n d] w fun e w' => e = .returned (.bool (inQ n1 d1 n2 d2 n d)) ∧ Below w.heap.size w w' := by
  have HE := fun W h => evalid_in n1 d1 n2 d2 W h1 h2 h
  rw [decide_eq_true hle] at HE
  have HV := fun W h => rv_true W h3 h
  have HC1 := fun W h => rcmp_in n1 d1 n d W h1 h3 h
  have HC2 := fun W h => rcmp_in n d n2 d2 W h3 h2 h
  unfold inQ
  unfold IV at HE ⊢
  unfold RV at HV HC1 HC2 ⊢
  clear h1 h2 h3 hle
  generalize cmpQ n1 d1 n d = ca at *
  generalize cmpQ n d n2 d2 = cb at *
  generalize str n1 = s1 at *
  generalize str d1 = t1 at *
  generalize str n2 = s2 at *
  generalize str d2 = t2 at *
  generalize str n = s at *
  generalize str d = t at *
  have HE := Lib.hid HE
  have HV := Lib.hid HV
  have HC1 := Lib.hid HC1
  have HC2 := Lib.hid HC2
  have bn := belowNew w (.cells #[.string s1, .string t1, .string s2, .string t2] 32)
  have bn2 := belowNew (w.alloc (.cells #[.string s1, .string t1, .string s2, .string t2] 32)) (.cells #[.string s, .string t] 25)
  have k0 := (R4.new w 32 (.string s1) (.string t1) (.string s2) (.string t2)).below bn2
  have m0 := RC.new (w.alloc (.cells #[.string s1, .string t1, .string s2, .string t2] 32)) 25 (.string s) (.string t)
  rw [sizeNew] at m0
  have b0 := bn.trans (bn2.mono bn.size)
  have c0 := k0.c0
  have c1 := k0.c1
  have c2 := k0.c2
  have c3 := k0.c3
  have c4 := m0.c00
  have c5 := m0.c01
  by_cases ha : ca ≤ 0
  · have hd : decide (ca ≤ 0) = true := decide_eq_true ha
    clear ha
    rw [hd, Bool.true_and]
    go_enter Tryz.func32, Tryz.ntmps32
    go_wp2_with (first
      | (go_at_call 67; refine (HE.out _ (ht.below b0)).mono ?_; rintro e w1 ⟨rfl, hb1⟩; have k1 := k0.below hb1; have m1 := m0.below hb1; have c0 := k1.c0; have c1 := k1.c1; have c2 := k1.c2; have c3 := k1.c3; have c4 := m1.c00; have c5 := m1.c01; have b1 := b0.trans (hb1.mono b0.size))
      | (go_at_call 50; refine (HV.out _ (ht.below b1)).mono ?_; rintro e w2 ⟨rfl, hb2⟩; have k2 := k1.below hb2; have m2 := m1.below hb2; have c0 := k2.c0; have c1 := k2.c1; have c2 := k2.c2; have c3 := k2.c3; have c4 := m2.c00; have c5 := m2.c01; have b2 := b1.trans (hb2.mono b1.size))
      | (have HA := HC1; go_at_call 17; refine (HA.out _ (ht.below b2)).mono ?_; clear HC1 HA; rintro e w3 ⟨rfl, hb3⟩; have k3 := k2.below hb3; have m3 := m2.below hb3; have c0 := k3.c0; have c1 := k3.c1; have c2 := k3.c2; have c3 := k3.c3; have c4 := m3.c00; have c5 := m3.c01; have b3 := b2.trans (hb3.mono b2.size))
      | (go_at_call 17; refine (HC2.out _ (ht.below b3)).mono ?_; rintro e w4 ⟨rfl, hb4⟩))
    go_ret
    exact ⟨rfl, b3.trans (hb4.mono b3.size)⟩
  · have hd : decide (ca ≤ 0) = false := decide_eq_false ha
    clear ha
    rw [hd, Bool.false_and]
    go_enter Tryz.func32, Tryz.ntmps32
    go_wp2_with (first
      | (go_at_call 67; refine (HE.out _ (ht.below b0)).mono ?_; rintro e w1 ⟨rfl, hb1⟩; have k1 := k0.below hb1; have m1 := m0.below hb1; have c0 := k1.c0; have c1 := k1.c1; have c2 := k1.c2; have c3 := k1.c3; have c4 := m1.c00; have c5 := m1.c01; have b1 := b0.trans (hb1.mono b0.size))
      | (go_at_call 50; refine (HV.out _ (ht.below b1)).mono ?_; rintro e w2 ⟨rfl, hb2⟩; have k2 := k1.below hb2; have m2 := m1.below hb2; have c0 := k2.c0; have c1 := k2.c1; have c2 := k2.c2; have c3 := k2.c3; have c4 := m2.c00; have c5 := m2.c01; have b2 := b1.trans (hb2.mono b1.size))
      | (go_at_call 17; refine (HC1.out _ (ht.below b2)).mono ?_; rintro e w3 ⟨rfl, hb3⟩; have b3 := b2.trans (hb3.mono b2.size)))
    go_ret
    exact ⟨rfl, b3⟩

set_option maxRecDepth 100000 in
set_option maxHeartbeats 4000000 in
theorem point_in (n d : Int) (w : World) (h : IsR n d) (ht : TabOf w) :
    Calls Tryz.prog 22 #[RV n d] w fun e w' => e = .returned (IV n d n d) ∧ Below w.heap.size w w' := by
  have HV := fun W h' => rv_true W h h'
  unfold IV
  unfold RV at HV ⊢
  clear h
  generalize str n = s at *
  generalize str d = t at *
  have HV := Lib.hid HV
  have bn := belowNew w (.cells #[.string s, .string t] 25)
  have bn2 := belowNew (w.alloc (.cells #[.string s, .string t] 25)) (.cells #[.string ⟨#[]⟩, .string ⟨#[]⟩, .string ⟨#[]⟩, .string ⟨#[]⟩] 32)
  have m0 := (RC.new w 25 (.string s) (.string t)).below bn2
  have k0 := R4.new (w.alloc (.cells #[.string s, .string t] 25)) 32 (.string ⟨#[]⟩) (.string ⟨#[]⟩) (.string ⟨#[]⟩) (.string ⟨#[]⟩)
  rw [sizeNew] at k0
  have b0 := bn.trans (bn2.mono bn.size)
  have c4 := m0.c00
  have c5 := m0.c01
  go_enter Tryz.func22, Tryz.ntmps22
  go_wp2_with (go_at_call 50; refine (HV.out _ (ht.below b0)).mono ?_; rintro e w1 ⟨rfl, hb1⟩; have k1 := k0.below hb1; have m1 := m0.below hb1; have c0 := k1.c0; have c1 := k1.c1; have c2 := k1.c2; have c3 := k1.c3; have c4 := m1.c00; have c5 := m1.c01; have b1 := b0.trans (hb1.mono b0.size); have f1 := k1.f)
  have r5 := k1.put (.string s) (.string t) (.string s) (.string t)
  refine bodyPost_ret_by (v := .agg #[.string s, .string t, .string s, .string t]) (by simp [results, Tryz.f22, go_sem, r5.c0, r5.c1, r5.c2, r5.c3]) rfl ⟨rfl, below_put4 b1 _ _ _ _ (by omega)⟩

theorem echeck_in (w : World) : Calls Tryz.prog 112 #[.bool true] w fun e w' => e = .returned (.tuple #[]) ∧ w = w' := by
  go_enter Tryz.func112, Tryz.ntmps112
  go_wp2
  go_end0
  exact ⟨rfl, rfl⟩

set_option maxRecDepth 100000 in
set_option maxHeartbeats 4000000 in
theorem must_in (s t : ByteArray) (w : World) :
    Calls Tryz.prog 102 #[.agg #[.string s, .string t], .int .i64 0] w fun e w' => e = .returned (.agg #[.string s, .string t]) ∧ Below w.heap.size w w' := by
  have bn := belowNew w (.cells #[.string s, .string t] 25)
  have bn2 := belowNew (w.alloc (.cells #[.string s, .string t] 25)) (.cells #[.string ⟨#[]⟩, .string ⟨#[]⟩] 25)
  have m0 := (RC.new w 25 (.string s) (.string t)).below bn2
  have k0 := RC.new (w.alloc (.cells #[.string s, .string t] 25)) 25 (.string ⟨#[]⟩) (.string ⟨#[]⟩)
  rw [sizeNew] at k0
  have b0 := bn.trans (bn2.mono bn.size)
  have c4 := m0.c00
  have c5 := m0.c01
  have c6 := k0.c00
  have c7 := k0.c01
  have f1 := k0.f0
  go_enter Tryz.func102, Tryz.ntmps102
  go_wp2_with (go_at_call 112; refine (echeck_in _).mono ?_; rintro e w1 ⟨rfl, rfl⟩)
  refine bodyPost_ret_by (v := .agg #[.string s, .string t]) (by simp [results, Tryz.f102, go_sem]) rfl ⟨rfl, (belowNew w _).trans ((belowNew _ _).mono (belowNew w _).size)⟩
end Go.Proofs.YtppbhnhmaocdnaaGreatDoor
namespace Go.Proofs.YtppbhnhmaocdnaaGreatDoor
open Go.RowKit Go.Shelf

structure Ivs (W : World) (b : Nat) (rs : List (Int × Int × Int × Int)) : Prop where
  lt : b < W.heap.size
  c0 : ∀ (i : Nat) (n d m e : Int), rs[i]? = some (n, d, m, e) → W.cell? ⟨b, i * 4, none⟩ = some (.string (str n))
  c1 : ∀ (i : Nat) (n d m e : Int), rs[i]? = some (n, d, m, e) → W.cell? ⟨b, i * 4 + 1, none⟩ = some (.string (str d))
  c2 : ∀ (i : Nat) (n d m e : Int), rs[i]? = some (n, d, m, e) → W.cell? ⟨b, i * 4 + 2, none⟩ = some (.string (str m))
  c3 : ∀ (i : Nat) (n d m e : Int), rs[i]? = some (n, d, m, e) → W.cell? ⟨b, i * 4 + 3, none⟩ = some (.string (str e))

theorem Ivs.below {W W' : World} {b : Nat} {rs : List (Int × Int × Int × Int)} (h : Ivs W b rs) (hb : Below W.heap.size W W') : Ivs W' b rs :=
  ⟨Nat.lt_of_lt_of_le h.lt hb.size, fun i n d m e k => Below.get hb (h.c0 i n d m e k), fun i n d m e k => Below.get hb (h.c1 i n d m e k), fun i n d m e k => Below.get hb (h.c2 i n d m e k), fun i n d m e k => Below.get hb (h.c3 i n d m e k)⟩

def IsI (n d m e : Int) : Prop := IsR n d ∧ IsR m e ∧ cmpQ n d m e ≤ 0
def AllI (rs : List (Int × Int × Int × Int)) : Prop := ∀ (i : Nat) (n d m e : Int), rs[i]? = some (n, d, m, e) → IsI n d m e

theorem ivs_one (W : World) (T : TypeId) (n d m e : Int) : Ivs (W.alloc (.cells #[.string (str n), .string (str d), .string (str m), .string (str e)] T)) W.heap.size [(n, d, m, e)] := by
  refine ⟨by rw [sizeNew]; omega, ?_, ?_, ?_, ?_⟩ <;> intro i a b c f h <;> match i, h with
    | 0, h => cases h; first | exact cellAt _ _ _ 0 _ rfl | exact cellAt _ _ _ 1 _ rfl | exact cellAt _ _ _ 2 _ rfl | exact cellAt _ _ _ 3 _ rfl
theorem ivs_two (W : World) (T : TypeId) (n d m e n' d' m' e' : Int) : Ivs (W.alloc (.cells #[.string (str n), .string (str d), .string (str m), .string (str e), .string (str n'), .string (str d'), .string (str m'), .string (str e')] T)) W.heap.size [(n, d, m, e), (n', d', m', e')] := by
  refine ⟨by rw [sizeNew]; omega, ?_, ?_, ?_, ?_⟩ <;> intro i a b c f h <;> match i, h with
    | 0, h => cases h; first | exact cellAt _ _ _ 0 _ rfl | exact cellAt _ _ _ 1 _ rfl | exact cellAt _ _ _ 2 _ rfl | exact cellAt _ _ _ 3 _ rfl
    | 1, h => cases h; first | exact cellAt _ _ _ 4 _ rfl | exact cellAt _ _ _ 5 _ rfl | exact cellAt _ _ _ 6 _ rfl | exact cellAt _ _ _ 7 _ rfl
theorem allI_one {n d m e : Int} (h : IsI n d m e) : AllI [(n, d, m, e)] := by
  intro i a b c f h'
  match i, h' with
  | 0, h' => cases h'; exact h
theorem allI_two {n d m e n' d' m' e' : Int} (h : IsI n d m e) (k : IsI n' d' m' e') : AllI [(n, d, m, e), (n', d', m', e')] := by
  intro i a b c f h'
  match i, h' with
  | 0, h' => cases h'; exact h
  | 1, h' => cases h'; exact k

def Bad (f : Nat) : Prop := ∀ (n d m e : Int) (W : World), IsI n d m e → TabOf W → Calls Tryz.prog f #[IV n d m e] W fun r w' => r = .returned (.bool false) ∧ Below W.heap.size W w'

set_option maxRecDepth 100000 in
set_option maxHeartbeats 4000000 in
theorem bad_iv : Bad 114 := by
  intro n d m e w h ht
  have HE := fun W h' => evalid_in n d m e W h.1 h.2.1 h'
  rw [decide_eq_true h.2.2] at HE
  unfold IV at HE ⊢
  clear h
  generalize str n = s1 at *
  generalize str d = t1 at *
  generalize str m = s2 at *
  generalize str e = t2 at *
  have HE := Lib.hid HE
  have bn := belowNew w (.cells #[.string s1, .string t1, .string s2, .string t2] 32)
  have k0 := R4.new w 32 (.string s1) (.string t1) (.string s2) (.string t2)
  have c0 := k0.c0
  have c1 := k0.c1
  have c2 := k0.c2
  have c3 := k0.c3
  go_enter Tryz.func114, Tryz.ntmps114
  go_wp2_with (go_at_call 67; refine (HE.out _ (ht.below bn)).mono ?_; rintro e w1 ⟨rfl, hb1⟩)
  go_ret
  exact ⟨rfl, bn.trans (hb1.mono bn.size)⟩

set_option maxRecDepth 100000 in
set_option maxHeartbeats 4000000 in
theorem bad_rat : Bad 146 := by
  intro n d m e w h ht
  have HE := fun W h' => evalid_in n d m e W h.1 h.2.1 h'
  rw [decide_eq_true h.2.2] at HE
  unfold IV at HE ⊢
  clear h
  generalize str n = s1 at *
  generalize str d = t1 at *
  generalize str m = s2 at *
  generalize str e = t2 at *
  have HE := Lib.hid HE
  have bn := belowNew w (.cells #[.string s1, .string t1, .string s2, .string t2] 32)
  have k0 := R4.new w 32 (.string s1) (.string t1) (.string s2) (.string t2)
  have c0 := k0.c0
  have c1 := k0.c1
  have c2 := k0.c2
  have c3 := k0.c3
  go_enter Tryz.func146, Tryz.ntmps146
  go_wp2_with (go_at_call 67; refine (HE.out _ (ht.below bn)).mono ?_; rintro e w1 ⟨rfl, hb1⟩)
  go_ret
  exact ⟨rfl, bn.trans (hb1.mono bn.size)⟩

set_option maxRecDepth 100000 in
set_option maxHeartbeats 4000000 in
theorem index_in (f b : Nat) (rs : List (Int × Int × Int × Int)) (w : World) (hr : Ivs w b rs) (hl : rs.length ≤ 100) (hok : AllI rs) (hf : Bad f) (eg : ∀ args w, (callFunc f args).run Tryz.prog w = .ok (.enter f args) w) (ht : TabOf w) :
    Calls Tryz.prog 150 #[.slice (some ⟨b, 0, none⟩) rs.length rs.length, .func (.func f) #[] #[]] w fun e w' => e = .returned (.int .i64 (-1)) ∧ Below w.heap.size w w' := by
  have HOK := Lib.hid hok
  have HF := Lib.hid hf
  clear hok hf
  go_enter Tryz.func150, Tryz.ntmps150
  go_wp2
  go_loopw [8] (fun i W => ∃ k : Nat, i = .int .i64 k ∧ k ≤ rs.length ∧ Ivs W b rs ∧ Below w.heap.size w W) (fun i _ => rs.length - (intOf i).toNat)
  case atStart => exact ⟨0, rfl, Nat.zero_le _, hr, Below.refl _ _⟩
  case round =>
    obtain ⟨k, rfl, hk, q1, b1⟩ := hrel
    rcases Nat.lt_or_ge k rs.length with hlt | hge
    · obtain ⟨⟨n, d, m, e⟩, hnd⟩ : ∃ x, rs[k]? = some x := ⟨rs[k], List.getElem?_eq_getElem hlt⟩
      have h0 := q1.c0 k n d m e hnd
      have h1 := q1.c1 k n d m e hnd
      have h2 := q1.c2 k n d m e hnd
      have h3 := q1.c3 k n d m e hnd
      have HV := HF.out n d m e wr (HOK.out k n d m e hnd) (ht.below b1)
      unfold IV at HV
      generalize str n = s at *
      generalize str d = t at *
      generalize str m = s' at *
      generalize str e = t' at *
      have HV := Lib.hid HV
      clear hnd
      go_wp2_with (refine (show Calls _ f _ _ _ from HV.out).mono ?_; rintro e w3 ⟨rfl, hb3⟩)
      go_roundw
      case rel => exact ⟨k + 1, by push_cast; rfl, by omega, q1.below hb3, b1.trans (hb3.mono b1.size)⟩
      case measure => simp [intOf]; omega
    · have : k = rs.length := by omega
      subst this
      go_wp2
      go_ret
      exact ⟨rfl, b1⟩

set_option maxRecDepth 100000 in
set_option maxHeartbeats 4000000 in
theorem anybad_in (f b : Nat) (rs : List (Int × Int × Int × Int)) (w : World) (hr : Ivs w b rs) (hl : rs.length ≤ 100) (hok : AllI rs) (hf : Bad f) (eg : ∀ args w, (callFunc f args).run Tryz.prog w = .ok (.enter f args) w) (ht : TabOf w) :
    Calls Tryz.prog 113 #[.slice (some ⟨b, 0, none⟩) rs.length rs.length, .func (.func f) #[] #[]] w fun e w' => e = .returned (.bool false) ∧ Below w.heap.size w w' := by
  have HI := Lib.hid (index_in f b rs w hr hl hok hf eg ht)
  clear hr hok hf eg
  go_enter Tryz.func113, Tryz.ntmps113
  go_wp2_with (go_at_call 150; refine HI.out.mono ?_; rintro e w1 ⟨rfl, hb1⟩)
  go_ret
  exact ⟨rfl, hb1⟩

theorem ent_biv : ∀ args w, (callFunc 114 args).run Tryz.prog w = .ok (.enter 114 args) w := enters_of Tryz.func114 (by kernel_rfl) rfl
theorem ent_brat : ∀ args w, (callFunc 146 args).run Tryz.prog w = .ok (.enter 146 args) w := enters_of Tryz.func146 (by kernel_rfl) rfl


theorem assert_none (w : World) : (Instr.typeAssert .nilIface 20 123 true).run Tryz.prog w = .ok (.tuple #[.nilIface, .bool false]) w := by kernel_rfl

set_option maxRecDepth 100000 in
set_option maxHeartbeats 400000 in
theorem idle_iv (p q : Addr) (w : World) :
    CallsD Tryz.prog 110 #[.pointer (some p), .pointer (some q)] .returning w fun e u' w' => e = .returned (.tuple #[]) ∧ u' = .returning ∧ w' = w := by
  have hta := assert_none
  refine callsD_of_wpS Tryz.func110 rfl fun c₀ cs hu => ?_
  simp only [Tryz.ntmps110, List.size_toArray, List.length_cons, List.length_nil, Nat.reduceAdd, Nat.reduceSub, Array.replicate_succ, Array.replicate_zero, List.push_toArray, List.append_toArray, List.nil_append, List.cons_append]
  apply wpS_seq
  apply wpS_region
  simp [wpOpsS, go_sem, recoverD, hu, hta, Exit.thenS]
  refine wpS_of_wp ?_
  go_wp2
  cases c₀
  simp_all [bodyPostS, results, Tryz.results110]

set_option maxRecDepth 100000 in
set_option maxHeartbeats 400000 in
theorem idle_rat (p q : Addr) (w : World) :
    CallsD Tryz.prog 145 #[.pointer (some p), .pointer (some q)] .returning w fun e u' w' => e = .returned (.tuple #[]) ∧ u' = .returning ∧ w' = w := by
  have hta := assert_none
  refine callsD_of_wpS Tryz.func145 rfl fun c₀ cs hu => ?_
  simp only [Tryz.ntmps145, List.size_toArray, List.length_cons, List.length_nil, Nat.reduceAdd, Nat.reduceSub, Array.replicate_succ, Array.replicate_zero, List.push_toArray, List.append_toArray, List.nil_append, List.cons_append]
  apply wpS_seq
  apply wpS_region
  simp [wpOpsS, go_sem, recoverD, hu, hta, Exit.thenS]
  refine wpS_of_wp ?_
  go_wp2
  cases c₀
  simp_all [bodyPostS, results, Tryz.results145]

set_option maxRecDepth 100000 in
set_option maxHeartbeats 1000000 in
theorem compute_iv (f b : Nat) (caps : Array Value) (n d m e : Int) (rs : List (Int × Int × Int × Int)) (w : World) (hr : Ivs w b rs) (hl : rs.length ≤ 100) (hok : AllI rs) (ht : TabOf w)
    (eg : ∀ args w, (callFunc f args).run Tryz.prog w = .ok (.enter f args) w)
    (hdo : ∀ W, Below w.heap.size w W → Calls Tryz.prog f caps W fun r w' => r = .returned (IV n d m e) ∧ Below W.heap.size W w') :
    Calls Tryz.prog 64 #[.func (.func f) #[] caps, .slice (some ⟨b, 0, none⟩) rs.length rs.length] w fun r w' => r = .returned (.tuple #[IV n d m e, .int .i64 0]) ∧ Below w.heap.size w w' := by
  have hmf : ∀ (fn : Fn) (first cap : Array Value) (w : World), (Instr.makeFunc fn first cap).run Tryz.prog w = .ok (.func fn first cap) w := fun _ _ _ _ => rfl
  have bn := belowNew w (.cells #[.string ⟨#[]⟩, .string ⟨#[]⟩, .string ⟨#[]⟩, .string ⟨#[]⟩] 32)
  have bn2 := belowNew (w.alloc (.cells #[.string ⟨#[]⟩, .string ⟨#[]⟩, .string ⟨#[]⟩, .string ⟨#[]⟩] 32)) (.cells #[.int .i64 0] 27)
  have k0 := (R4.new w 32 (.string ⟨#[]⟩) (.string ⟨#[]⟩) (.string ⟨#[]⟩) (.string ⟨#[]⟩)).below bn2
  have m0 := cellAt (w.alloc (.cells #[.string ⟨#[]⟩, .string ⟨#[]⟩, .string ⟨#[]⟩, .string ⟨#[]⟩] 32)) #[.int .i64 0] 27 0 _ rfl
  have f0 := frozenNew (w.alloc (.cells #[.string ⟨#[]⟩, .string ⟨#[]⟩, .string ⟨#[]⟩, .string ⟨#[]⟩] 32)) #[.int .i64 0] 27 0 _ rfl
  have b0 := bn.trans (bn2.mono bn.size)
  rw [sizeNew] at m0 f0
  have HB := Lib.hid (anybad_in 114 b rs _ (hr.below b0) hl hok bad_iv ent_biv (ht.below b0))
  have HD := Lib.hid hdo
  unfold IV at HD ⊢
  generalize str n = s1 at *
  generalize str d = t1 at *
  generalize str m = s2 at *
  generalize str e = t2 at *
  clear hdo hok
  go_enter_defers Tryz.func64, Tryz.ntmps64
  go_wp2_with (first
    | (go_at_call 113; refine HB.out.mono ?_; rintro e w1 ⟨rfl, hb1⟩; have k1 := k0.below hb1; have m1 := Below.get hb1 m0; have f1 := Below.unf hb1 m0 f0; have b1 := b0.trans (hb1.mono b0.size))
    | (go_at_call 112; refine (echeck_in _).mono ?_; rintro e w2 ⟨rfl, rfl⟩)
    | (refine (show Calls _ f _ _ _ from HD.out _ b1).mono ?_; rintro e w3 ⟨rfl, hb3⟩; have k3 := k1.below hb3; have m3 := Below.get hb3 m1; have f3 := Below.unf hb3 m1 f1; have b3 := b1.trans (hb3.mono b1.size); have e0 := k3.c0; have e1 := k3.c1; have e2 := k3.c2; have e3 := k3.c3; have e4 := k3.f))
  have r5 := k3.put (.string s1) (.string t1) (.string s2) (.string t2)
  have x0 := setOther r5.c0 (show w.heap.size + 1 ≠ w.heap.size by omega) (o := 0) (.int .i64 0)
  have x1 := setOther r5.c1 (show w.heap.size + 1 ≠ w.heap.size by omega) (o := 0) (.int .i64 0)
  have x2 := setOther r5.c2 (show w.heap.size + 1 ≠ w.heap.size by omega) (o := 0) (.int .i64 0)
  have x3 := setOther r5.c3 (show w.heap.size + 1 ≠ w.heap.size by omega) (o := 0) (.int .i64 0)
  have x4 := setSame (setOther (setOther (setOther (setOther m3 (show w.heap.size ≠ w.heap.size + 1 by omega) (o := 0) (.string s1)) (show w.heap.size ≠ w.heap.size + 1 by omega) (o := 1) (.string t1)) (show w.heap.size ≠ w.heap.size + 1 by omega) (o := 2) (.string s2)) (show w.heap.size ≠ w.heap.size + 1 by omega) (o := 3) (.string t2)) (.int .i64 0)
  refine leaves_cons (f := 110) (args := #[.pointer (some ⟨w.heap.size, 0, none⟩), .pointer (some ⟨w.heap.size + 1, 0, none⟩)]) (by simp) (by simp [go_sem]) ?_
  refine (idle_iv _ _ _).mono ?_
  rintro e u' w'' ⟨rfl, rfl, rfl⟩
  have hb5 := (below_put4 b3 (.string s1) (.string t1) (.string s2) (.string t2) (Nat.le_refl _)).setCell (p := ⟨w.heap.size + 1, 0, none⟩) (by show w.heap.size ≤ w.heap.size + 1; omega) (.int .i64 0)
  exact ⟨_, by simp [Leaves, settle, results, Tryz.results64, go_sem, x0, x1, x2, x3, x4], rfl, hb5⟩

end Go.Proofs.YtppbhnhmaocdnaaGreatDoor
namespace Go.Proofs.YtppbhnhmaocdnaaGreatDoor
open Go.RowKit Go.Shelf

set_option maxRecDepth 100000 in
set_option maxHeartbeats 1000000 in
theorem compute_rat (f b : Nat) (caps : Array Value) (n d : Int) (rs : List (Int × Int × Int × Int)) (w : World) (hr : Ivs w b rs) (hl : rs.length ≤ 100) (hok : AllI rs) (ht : TabOf w)
    (eg : ∀ args w, (callFunc f args).run Tryz.prog w = .ok (.enter f args) w)
    (hdo : ∀ W, Below w.heap.size w W → Calls Tryz.prog f caps W fun r w' => r = .returned (RV n d) ∧ Below W.heap.size W w') :
    Calls Tryz.prog 105 #[.func (.func f) #[] caps, .slice (some ⟨b, 0, none⟩) rs.length rs.length] w fun r w' => r = .returned (.tuple #[RV n d, .int .i64 0]) ∧ Below w.heap.size w w' := by
  have hmf : ∀ (fn : Fn) (first cap : Array Value) (w : World), (Instr.makeFunc fn first cap).run Tryz.prog w = .ok (.func fn first cap) w := fun _ _ _ _ => rfl
  have bn := belowNew w (.cells #[.string ⟨#[]⟩, .string ⟨#[]⟩] 25)
  have bn2 := belowNew (w.alloc (.cells #[.string ⟨#[]⟩, .string ⟨#[]⟩] 25)) (.cells #[.int .i64 0] 27)
  have k0 := (RC.new w 25 (.string ⟨#[]⟩) (.string ⟨#[]⟩)).below bn2
  have m0 := cellAt (w.alloc (.cells #[.string ⟨#[]⟩, .string ⟨#[]⟩] 25)) #[.int .i64 0] 27 0 _ rfl
  have f0 := frozenNew (w.alloc (.cells #[.string ⟨#[]⟩, .string ⟨#[]⟩] 25)) #[.int .i64 0] 27 0 _ rfl
  have b0 := bn.trans (bn2.mono bn.size)
  rw [sizeNew] at m0 f0
  have HB := Lib.hid (anybad_in 146 b rs _ (hr.below b0) hl hok bad_rat ent_brat (ht.below b0))
  have HD := Lib.hid hdo
  unfold RV at HD ⊢
  generalize str n = s1 at *
  generalize str d = t1 at *
  clear hdo hok
  go_enter_defers Tryz.func105, Tryz.ntmps105
  go_wp2_with (first
    | (go_at_call 113; refine HB.out.mono ?_; rintro e w1 ⟨rfl, hb1⟩; have k1 := k0.below hb1; have m1 := Below.get hb1 m0; have f1 := Below.unf hb1 m0 f0; have b1 := b0.trans (hb1.mono b0.size))
    | (go_at_call 112; refine (echeck_in _).mono ?_; rintro e w2 ⟨rfl, rfl⟩)
    | (refine (show Calls _ f _ _ _ from HD.out _ b1).mono ?_; rintro e w3 ⟨rfl, hb3⟩; have k3 := k1.below hb3; have m3 := Below.get hb3 m1; have f3 := Below.unf hb3 m1 f1; have b3 := b1.trans (hb3.mono b1.size); have e0 := k3.c00; have e1 := k3.c01; have e4 := k3.f0))
  have r5 := k3.put (.string s1) (.string t1)
  have x0 := setOther r5.c00 (show w.heap.size + 1 ≠ w.heap.size by omega) (o := 0) (.int .i64 0)
  have x1 := setOther r5.c01 (show w.heap.size + 1 ≠ w.heap.size by omega) (o := 0) (.int .i64 0)
  have x4 := setSame (setOther (setOther m3 (show w.heap.size ≠ w.heap.size + 1 by omega) (o := 0) (.string s1)) (show w.heap.size ≠ w.heap.size + 1 by omega) (o := 1) (.string t1)) (.int .i64 0)
  refine leaves_cons (f := 145) (args := #[.pointer (some ⟨w.heap.size, 0, none⟩), .pointer (some ⟨w.heap.size + 1, 0, none⟩)]) (by simp) (by simp [go_sem]) ?_
  refine (idle_rat _ _ _).mono ?_
  rintro e u' w'' ⟨rfl, rfl, rfl⟩
  have hb5 := (below_put2 b3 (.string s1) (.string t1) (Nat.le_refl _)).setCell (p := ⟨w.heap.size + 1, 0, none⟩) (by show w.heap.size ≤ w.heap.size + 1; omega) (.int .i64 0)
  exact ⟨_, by simp [settle, results, Tryz.results105, go_sem, x0, x1, x4], rfl, hb5⟩


theorem sub_post {n1 d1 n2 d2 : Int} {w : World} (h1 : IsR n1 d1) (h2 : IsR n2 d2) (ha : (n1 * d2).natAbs < big) (hb : (n2 * d1).natAbs < big) (hn : (n1 * d2 - n2 * d1).natAbs < big) (hd : (d1 * d2).natAbs < big) (ht : TabOf w) :
    Calls Tryz.prog 15 #[RV n1 d1, RV n2 d2] w (RatPost (rnum (n1 * d2 - n2 * d1) (d1 * d2)) (rden (n1 * d2 - n2 * d1) (d1 * d2)) w) := rsub_in n1 d1 n2 d2 w h1 h2 ha hb hn hd ht

structure SubOk (n1 d1 n2 d2 : Int) : Prop where
  h1 : IsR n1 d1
  h2 : IsR n2 d2
  ha : (n1 * d2).natAbs < big
  hb : (n2 * d1).natAbs < big
  hn : (n1 * d2 - n2 * d1).natAbs < big
  hd : (d1 * d2).natAbs < big

set_option maxRecDepth 100000 in
set_option maxHeartbeats 4000000 in
theorem width1_in (R : Nat) (n1 d1 n2 d2 : Int) (w : World) (hR : R4 R w (.string (str n1)) (.string (str d1)) (.string (str n2)) (.string (str d2))) (hs : SubOk n2 d2 n1 d1) (ht : TabOf w) :
    Calls Tryz.prog 106 #[.pointer (some ⟨R, 0, none⟩)] w fun r w' => r = .returned (RV (rnum (n2 * d1 - n1 * d2) (d2 * d1)) (rden (n2 * d1 - n1 * d2) (d2 * d1))) ∧ Below w.heap.size w w' := by
  have HS := fun W h => sub_post (w := W) hs.h1 hs.h2 hs.ha hs.hb hs.hn hs.hd h
  unfold RatPost RV at HS
  unfold RV
  generalize str (rnum (n2 * d1 - n1 * d2) (d2 * d1)) = q1 at *
  generalize str (rden (n2 * d1 - n1 * d2) (d2 * d1)) = q2 at *
  generalize str n1 = s1 at *
  generalize str d1 = t1 at *
  generalize str n2 = s2 at *
  generalize str d2 = t2 at *
  have HS := Lib.hid HS
  have bn := belowNew w (.cells #[.string ⟨#[]⟩, .string ⟨#[]⟩] 25)
  have k0 := RC.new w 25 (.string ⟨#[]⟩) (.string ⟨#[]⟩)
  have r0 := hR.below bn
  have c0 := r0.c0
  have c1 := r0.c1
  have c2 := r0.c2
  have c3 := r0.c3
  clear hs
  go_enter Tryz.func106, Tryz.ntmps106
  go_wp2_with (first
    | (go_at_call 15; refine (HS.out _ (ht.below bn)).mono ?_; rintro e w1 ⟨rfl, hb1⟩; have k1 := k0.below hb1; have b1 := bn.trans (hb1.mono bn.size))
    | (go_at_call 102; refine (must_in _ _ _).mono ?_; rintro e w2 ⟨rfl, hb2⟩; have k2 := k1.below hb2; have b2 := b1.trans (hb2.mono b1.size); have e0 := k2.c00; have e1 := k2.c01; have e2 := k2.f0))
  have r5 := k2.put (.string q1) (.string q2)
  refine bodyPost_ret_by (v := .agg #[.string q1, .string q2]) (by simp [results, Tryz.f106, go_sem, r5.c00, r5.c01]) rfl ⟨rfl, below_put2 b2 _ _ (Nat.le_refl _)⟩

theorem ent_width : ∀ args w, (callFunc 106 args).run Tryz.prog w = .ok (.enter 106 args) w := enters_of Tryz.func106 (by kernel_rfl) rfl

set_option maxRecDepth 100000 in
set_option maxHeartbeats 4000000 in
theorem width_in (n1 d1 n2 d2 : Int) (w : World) (hi : IsI n1 d1 n2 d2) (hs : SubOk n2 d2 n1 d1) (ht : TabOf w) :
    Calls Tryz.prog 60 #[IV n1 d1 n2 d2] w (RatPost (rnum (n2 * d1 - n1 * d2) (d2 * d1)) (rden (n2 * d1 - n1 * d2) (d2 * d1)) w) := by
  have bn := belowNew w (.cells #[.string (str n1), .string (str d1), .string (str n2), .string (str d2)] 32)
  have bn2 := belowNew (w.alloc (.cells #[.string (str n1), .string (str d1), .string (str n2), .string (str d2)] 32)) (.cells #[.string ⟨#[]⟩, .string ⟨#[]⟩] 25)
  have bn3 := belowNew ((w.alloc (.cells #[.string (str n1), .string (str d1), .string (str n2), .string (str d2)] 32)).alloc (.cells #[.string ⟨#[]⟩, .string ⟨#[]⟩] 25)) (.cells #[.string (str n1), .string (str d1), .string (str n2), .string (str d2)] 32)
  have k0 := ((R4.new w 32 (.string (str n1)) (.string (str d1)) (.string (str n2)) (.string (str d2))).below bn2).below bn3
  have m0 := (RC.new (w.alloc (.cells #[.string (str n1), .string (str d1), .string (str n2), .string (str d2)] 32)) 25 (.string ⟨#[]⟩) (.string ⟨#[]⟩)).below bn3
  have i0 := ivs_one ((w.alloc (.cells #[.string (str n1), .string (str d1), .string (str n2), .string (str d2)] 32)).alloc (.cells #[.string ⟨#[]⟩, .string ⟨#[]⟩] 25)) 32 n1 d1 n2 d2
  have b0 := (bn.trans (bn2.mono bn.size)).trans (bn3.mono (by rw [sizeNew, sizeNew]; omega))
  have hsz0 : w.heap.size < (((w.alloc (.cells #[.string (str n1), .string (str d1), .string (str n2), .string (str d2)] 32)).alloc (.cells #[.string ⟨#[]⟩, .string ⟨#[]⟩] 25)).alloc (.cells #[.string (str n1), .string (str d1), .string (str n2), .string (str d2)] 32)).heap.size := by rw [sizeNew, sizeNew, sizeNew]; omega
  have HC := Lib.hid (compute_rat 106 _ #[.pointer (some ⟨w.heap.size, 0, none⟩)] _ _ [(n1, d1, n2, d2)] _ i0 (by simp) (allI_one hi) (ht.below b0) ent_width
    (fun W hW => width1_in w.heap.size n1 d1 n2 d2 W (k0.belowB hW hsz0) hs (ht.below (b0.trans (hW.mono b0.size)))))
  rw [sizeNew, sizeNew] at HC
  rw [sizeNew] at m0
  have c0 := cellAt w #[.string (str n1), .string (str d1), .string (str n2), .string (str d2)] 32 0 _ rfl
  unfold RatPost
  unfold RV IV at *
  generalize str (rnum (n2 * d1 - n1 * d2) (d2 * d1)) = q1 at *
  generalize str (rden (n2 * d1 - n1 * d2) (d2 * d1)) = q2 at *
  generalize str n1 = s1 at *
  generalize str d1 = t1 at *
  generalize str n2 = s2 at *
  generalize str d2 = t2 at *
  clear hs i0 hi
  go_enter Tryz.func60, Tryz.ntmps60
  go_wp2_with (go_at_call 105; refine HC.out.mono ?_; rintro e w1 ⟨rfl, hb1⟩; have m1 := m0.below hb1; have b1 := b0.trans (hb1.mono b0.size); have e0 := m1.c00; have e1 := m1.c01; have e2 := m1.f0)
  have r5 := m1.put (.string q1) (.string q2)
  refine bodyPost_ret_by (v := .tuple #[.agg #[.string q1, .string q2], .int .i64 0]) (by simp [results, Tryz.f60, go_sem, r5.c00, r5.c01]) rfl ⟨rfl, below_put2 b1 _ _ (by omega)⟩
end Go.Proofs.YtppbhnhmaocdnaaGreatDoor
namespace Go.Proofs.YtppbhnhmaocdnaaGreatDoor
open Go.RowKit Go.Shelf

structure RndOk (n1 d1 n2 d2 : Int) (p : Nat) : Prop where
  hi : IsI n1 d1 n2 d2
  hp : p ≤ 30
  ha : (n1 * (10 ^ p : Nat)).natAbs < big
  hb : (n2 * (10 ^ p : Nat)).natAbs < big
  hc : (n2 * (10 ^ p : Nat) / d2 + 1).natAbs < big

theorem cell_put4 {R' b o : Nat} {W : World} {x : Value} (h : W.cell? ⟨b, o, none⟩ = some x) (hn : R' ≠ b) (a b' c d : Value) :
    ((((W.setCell ⟨R', 0, none⟩ a).setCell ⟨R', 1, none⟩ b').setCell ⟨R', 2, none⟩ c).setCell ⟨R', 3, none⟩ d).cell? ⟨b, o, none⟩ = some x :=
  setOther (setOther (setOther (setOther h hn _) hn _) hn _) hn _

def gnum (up : Bool) (n d : Int) (p : Nat) : Int := rnum (gridN up n d (10 ^ p : Nat)) (10 ^ p : Nat)
def gden (up : Bool) (n d : Int) (p : Nat) : Int := rden (gridN up n d (10 ^ p : Nat)) (10 ^ p : Nat)

set_option maxRecDepth 100000 in
set_option maxHeartbeats 4000000 in
theorem round1_in (R Q : Nat) (n1 d1 n2 d2 : Int) (p : Nat) (w : World) (hR : R4 R w (.string (str n1)) (.string (str d1)) (.string (str n2)) (.string (str d2))) (hQ : w.cell? ⟨Q, 0, none⟩ = some (.int .i64 p)) (hs : RndOk n1 d1 n2 d2 p) (ht : TabOf w) :
    Calls Tryz.prog 101 #[.pointer (some ⟨R, 0, none⟩), .pointer (some ⟨Q, 0, none⟩)] w fun r w' => r = .returned (IV (gnum false n1 d1 p) (gden false n1 d1 p) (gnum true n2 d2 p) (gden true n2 d2 p)) ∧ Below w.heap.size w w' := by
  have HD := fun W h => down_in n1 d1 p W hs.hi.1 hs.hp hs.ha h
  have HU := fun W h => up_in n2 d2 p W hs.hi.2.1 hs.hp hs.hb hs.hc h
  unfold RatPost RV at HD HU
  unfold IV gnum gden
  generalize str (rnum (gridN false n1 d1 (10 ^ p : Nat)) (10 ^ p : Nat)) = q1 at *
  generalize str (rden (gridN false n1 d1 (10 ^ p : Nat)) (10 ^ p : Nat)) = q2 at *
  generalize str (rnum (gridN true n2 d2 (10 ^ p : Nat)) (10 ^ p : Nat)) = q3 at *
  generalize str (rden (gridN true n2 d2 (10 ^ p : Nat)) (10 ^ p : Nat)) = q4 at *
  generalize str n1 = s1 at *
  generalize str d1 = t1 at *
  generalize str n2 = s2 at *
  generalize str d2 = t2 at *
  have HD := Lib.hid HD
  have HU := Lib.hid HU
  have bn := belowNew w (.cells #[.string ⟨#[]⟩, .string ⟨#[]⟩, .string ⟨#[]⟩, .string ⟨#[]⟩] 32)
  have k0 := R4.new w 32 (.string ⟨#[]⟩) (.string ⟨#[]⟩) (.string ⟨#[]⟩) (.string ⟨#[]⟩)
  have hne : w.heap.size ≠ R := by have := ltOf hR.c0; omega
  have hnq : w.heap.size ≠ Q := by have := ltOf hQ; omega
  have r0 := hR.below bn
  have p0 := Below.get bn hQ
  have c0 := r0.c0
  have c1 := r0.c1
  have c2 := r0.c2
  have c3 := r0.c3
  obtain ⟨z, hz⟩ : ∃ z : Int, z = (p : Int) := ⟨_, rfl⟩
  rw [← hz] at HD HU p0
  clear hs hR hQ hz
  have k0' : R4 w.heap.size (w.alloc (.cells #[.string ⟨#[]⟩, .string ⟨#[]⟩, .string ⟨#[]⟩, .string ⟨#[]⟩] 32)).drew (.string ⟨#[]⟩) (.string ⟨#[]⟩) (.string ⟨#[]⟩) (.string ⟨#[]⟩) := ⟨k0.c0, k0.c1, k0.c2, k0.c3, k0.f⟩
  have r0' : R4 R (w.alloc (.cells #[.string ⟨#[]⟩, .string ⟨#[]⟩, .string ⟨#[]⟩, .string ⟨#[]⟩] 32)).drew (.string s1) (.string t1) (.string s2) (.string t2) := ⟨r0.c0, r0.c1, r0.c2, r0.c3, r0.f⟩
  have p0' : (w.alloc (.cells #[.string ⟨#[]⟩, .string ⟨#[]⟩, .string ⟨#[]⟩, .string ⟨#[]⟩] 32)).drew.cell? ⟨Q, 0, none⟩ = some (.int .i64 z) := p0
  have b0 := bn.drew
  have t0 := ht.below b0
  go_enter Tryz.func101, Tryz.ntmps101
  go_wp2
  go_region_held3 (fun W => W.cell? ⟨R, 0, none⟩ = some (.string s1) ∧ W.cell? ⟨R, 1, none⟩ = some (.string t1) ∧ W.cell? ⟨R, 2, none⟩ = some (.string s2) ∧ W.cell? ⟨R, 3, none⟩ = some (.string t2) ∧ W.cell? ⟨Q, 0, none⟩ = some (.int .i64 z))
    (first | with_reducible exact ⟨r0'.c0, r0'.c1, r0'.c2, r0'.c3, p0'⟩ | with_reducible exact ⟨r1.c0, r1.c1, r1.c2, r1.c3, p1⟩ | with_reducible exact ⟨r2.c0, r2.c1, r2.c2, r2.c3, p2⟩ | with_reducible exact ⟨r3.c0, r3.c1, r3.c2, r3.c3, p3⟩ | with_reducible exact ⟨r4.c0, r4.c1, r4.c2, r4.c3, p4⟩ | with_reducible exact ⟨cell_put4 r4.c0 hne _ _ _ _, cell_put4 r4.c1 hne _ _ _ _, cell_put4 r4.c2 hne _ _ _ _, cell_put4 r4.c3 hne _ _ _ _, cell_put4 p4 hnq _ _ _ _⟩) (first
    | (go_at_call 103; refine (HD.out (World.drew _) t0).mono ?_; rintro e w1 ⟨rfl, hb1⟩; have k1 := k0'.below hb1; have r1 := r0'.below hb1; have p1 := Below.get hb1 p0'; have b1 := b0.trans (hb1.mono b0.size))
    | (go_at_call 104; refine (HU.out _ (ht.below b2)).mono ?_; rintro e w3 ⟨rfl, hb3⟩; have k3 := k2.below hb3; have r3 := r2.below hb3; have p3 := Below.get hb3 p2; have b3 := b2.trans (hb3.mono b2.size); clear HU)
    | (have HA := HU; go_at_call 102; refine (must_in _ _ _).mono ?_; clear HA; rintro e w2 ⟨rfl, hb2⟩; have k2 := k1.below hb2; have r2 := r1.below hb2; have p2 := Below.get hb2 p1; have b2 := b1.trans (hb2.mono b1.size))
    | (go_at_call 102; refine (must_in _ _ _).mono ?_; rintro e w4 ⟨rfl, hb4⟩; have k4 := k3.below hb4; have r4 := r3.below hb4; have p4 := Below.get hb4 p3; have b4 := b3.trans (hb4.mono b3.size); have e0 := k4.c0; have e1 := k4.c1; have e2 := k4.c2; have e3 := k4.c3; have e4 := k4.f))
  all_goals go_wp2
  have r5 := k4.put (.string q1) (.string q2) (.string q3) (.string q4)
  refine bodyPost_ret_by (v := .agg #[.string q1, .string q2, .string q3, .string q4]) (by simp [results, Tryz.f101, go_sem, r5.c0, r5.c1, r5.c2, r5.c3]) rfl ⟨rfl, below_put4 b4 _ _ _ _ (Nat.le_refl _)⟩

theorem ent_round : ∀ args w, (callFunc 101 args).run Tryz.prog w = .ok (.enter 101 args) w := enters_of Tryz.func101 (by kernel_rfl) rfl

def IvPost (n1 d1 n2 d2 : Int) (w : World) (e : Ending) (w' : World) : Prop := e = .returned (.tuple #[IV n1 d1 n2 d2, .int .i64 0]) ∧ Below w.heap.size w w'

structure E3 (w W : World) (T U V : TypeId) (s1 t1 s2 t2 : ByteArray) (z : Value) : Prop where
  e : W = (((w.alloc (.cells #[.string s1, .string t1, .string s2, .string t2] T)).alloc (.cells #[z] U)).alloc (.cells #[.string ⟨#[]⟩, .string ⟨#[]⟩, .string ⟨#[]⟩, .string ⟨#[]⟩] V))
  a : R4 w.heap.size W (.string s1) (.string t1) (.string s2) (.string t2)
  z : W.cell? ⟨w.heap.size + 1, 0, none⟩ = some z
  r : R4 (w.heap.size + 1 + 1) W (.string ⟨#[]⟩) (.string ⟨#[]⟩) (.string ⟨#[]⟩) (.string ⟨#[]⟩)
  l : Below w.heap.size w W
  s : W.heap.size = w.heap.size + 1 + 1 + 1

theorem E3.start (w : World) (T U V : TypeId) (s1 t1 s2 t2 : ByteArray) (z : Value) : ∃ W, E3 w W T U V s1 t1 s2 t2 z := by
  have b1 := belowNew w (.cells #[.string s1, .string t1, .string s2, .string t2] T)
  have b2 := belowNew (w.alloc (.cells #[.string s1, .string t1, .string s2, .string t2] T)) (.cells #[z] U)
  have b3 := belowNew ((w.alloc (.cells #[.string s1, .string t1, .string s2, .string t2] T)).alloc (.cells #[z] U)) (.cells #[.string ⟨#[]⟩, .string ⟨#[]⟩, .string ⟨#[]⟩, .string ⟨#[]⟩] V)
  have k1 := ((R4.new w T (.string s1) (.string t1) (.string s2) (.string t2)).below b2).below b3
  have k2 := Below.get b3 (cellAt (w.alloc (.cells #[.string s1, .string t1, .string s2, .string t2] T)) #[z] U 0 _ rfl)
  have k3 := R4.new ((w.alloc (.cells #[.string s1, .string t1, .string s2, .string t2] T)).alloc (.cells #[z] U)) V (.string ⟨#[]⟩) (.string ⟨#[]⟩) (.string ⟨#[]⟩) (.string ⟨#[]⟩)
  rw [sizeNew] at k2
  rw [sizeNew, sizeNew] at k3
  exact ⟨_, rfl, k1, k2, k3, (b1.trans (b2.mono b1.size)).trans (b3.mono (by rw [sizeNew, sizeNew]; omega)), by rw [sizeNew, sizeNew, sizeNew]⟩

set_option maxRecDepth 100000 in
set_option maxHeartbeats 4000000 in
theorem round_in (n1 d1 n2 d2 : Int) (p : Nat) (w : World) (hs : RndOk n1 d1 n2 d2 p) (ht : TabOf w) :
    Calls Tryz.prog 59 #[IV n1 d1 n2 d2, .int .i64 p] w (IvPost (gnum false n1 d1 p) (gden false n1 d1 p) (gnum true n2 d2 p) (gden true n2 d2 p) w) := by
  obtain ⟨W, hW⟩ := E3.start w 32 3 32 (str n1) (str d1) (str n2) (str d2) (.int .i64 p)
  have bn := belowNew W (.cells #[.string (str n1), .string (str d1), .string (str n2), .string (str d2)] 32)
  have i0 := ivs_one W 32 n1 d1 n2 d2
  have k0 := hW.a.below bn
  have z0 := Below.get bn hW.z
  have m0 := hW.r.below bn
  have b0 := hW.l.trans (bn.mono hW.l.size)
  have hsz := hW.s
  have hsz0 : w.heap.size + 1 < (W.alloc (.cells #[.string (str n1), .string (str d1), .string (str n2), .string (str d2)] 32)).heap.size := by rw [sizeNew]; omega
  have HC := Lib.hid (compute_iv 101 _ #[.pointer (some ⟨w.heap.size, 0, none⟩), .pointer (some ⟨w.heap.size + 1, 0, none⟩)] _ _ _ _ [(n1, d1, n2, d2)] _ i0 (by simp) (allI_one hs.hi) (ht.below b0) ent_round
    (fun W' hW' => round1_in w.heap.size (w.heap.size + 1) n1 d1 n2 d2 p W' (k0.belowB hW' (by omega)) ((hW'.cell (p := ⟨w.heap.size + 1, 0, none⟩) hsz0).trans z0) hs (ht.below (b0.trans (hW'.mono b0.size)))))
  have eW := hW.e
  rw [hsz] at HC
  clear hW i0 hsz bn hsz0
  subst eW
  unfold IvPost
  unfold IV at *
  generalize str (gnum false n1 d1 p) = q1 at *
  generalize str (gden false n1 d1 p) = q2 at *
  generalize str (gnum true n2 d2 p) = q3 at *
  generalize str (gden true n2 d2 p) = q4 at *
  generalize str n1 = s1 at *
  generalize str d1 = t1 at *
  generalize str n2 = s2 at *
  generalize str d2 = t2 at *
  obtain ⟨z, hz⟩ : ∃ z : Int, z = (p : Int) := ⟨_, rfl⟩
  rw [← hz] at HC z0 m0 b0 ⊢
  clear hs hz k0 z0
  go_enter Tryz.func59, Tryz.ntmps59
  go_wp2_with (go_at_call 64; refine HC.out.mono ?_; rintro e w1 ⟨rfl, hb1⟩; have m1 := m0.below hb1; have b1 := b0.trans (hb1.mono b0.size); have e0 := m1.c0; have e1 := m1.c1; have e2 := m1.c2; have e3 := m1.c3; have e4 := m1.f)
  have r5 := m1.put (.string q1) (.string q2) (.string q3) (.string q4)
  refine bodyPost_ret_by (v := .tuple #[.agg #[.string q1, .string q2, .string q3, .string q4], .int .i64 0]) (by simp [results, Tryz.f59, go_sem, r5.c0, r5.c1, r5.c2, r5.c3]) rfl ⟨rfl, below_put4 b1 _ _ _ _ (by omega)⟩
end Go.Proofs.YtppbhnhmaocdnaaGreatDoor
namespace Go.Proofs.YtppbhnhmaocdnaaGreatDoor
open Go.RowKit Go.Shelf

def StrPost (n : Int) (w : World) (e : Ending) (w' : World) : Prop := e = .returned (.string (str n)) ∧ Below w.heap.size w w'

set_option maxRecDepth 100000 in
set_option maxHeartbeats 1000000 in
theorem sadd_in (n m : Int) (w : World) (hn : n.natAbs < big) (hm : m.natAbs < big) (hr : (n + m).natAbs < big) (ht : TabOf w) :
    Calls Tryz.prog 56 #[.string (str n), .string (str m)] w (StrPost (n + m) w) := by
  have HD := does_add hn hm hr ht
  unfold Does at HD
  unfold StrPost
  generalize str (n + m) = r at *
  generalize str n = s at *
  generalize str m = t at *
  have HD := Lib.hid HD
  go_enter Tryz.func56, Tryz.ntmps56
  go_wp2_with (go_at_call 35; refine HD.out.mono ?_; rintro e w1 ⟨rfl, hb1⟩)
  go_ret
  exact ⟨rfl, hb1⟩

set_option maxRecDepth 100000 in
set_option maxHeartbeats 1000000 in
theorem ssub_in (n m : Int) (w : World) (hn : n.natAbs < big) (hm : m.natAbs < big) (hr : (n - m).natAbs < big) (ht : TabOf w) :
    Calls Tryz.prog 49 #[.string (str n), .string (str m)] w (StrPost (n - m) w) := by
  have HD := does_sub hn hm hr ht
  unfold Does at HD
  unfold StrPost
  generalize str (n - m) = r at *
  generalize str n = s at *
  generalize str m = t at *
  have HD := Lib.hid HD
  go_enter Tryz.func49, Tryz.ntmps49
  go_wp2_with (go_at_call 45; refine HD.out.mono ?_; rintro e w1 ⟨rfl, hb1⟩)
  go_ret
  exact ⟨rfl, hb1⟩

set_option maxRecDepth 100000 in
set_option maxHeartbeats 1000000 in
theorem smul_in (n m : Int) (w : World) (hn : n.natAbs < big) (hm : m.natAbs < big) (hr : (n * m).natAbs < big) (ht : TabOf w) :
    Calls Tryz.prog 54 #[.string (str n), .string (str m)] w (StrPost (n * m) w) := by
  have HD := does_mul hn hm hr ht
  unfold Does at HD
  unfold StrPost
  generalize str (n * m) = r at *
  generalize str n = s at *
  generalize str m = t at *
  have HD := Lib.hid HD
  go_enter Tryz.func54, Tryz.ntmps54
  go_wp2_with (go_at_call 100; refine HD.out.mono ?_; rintro e w1 ⟨rfl, hb1⟩)
  go_ret
  exact ⟨rfl, hb1⟩

set_option maxRecDepth 100000 in
set_option maxHeartbeats 1000000 in
theorem sdown_in (n m : Int) (w : World) (hn : n.natAbs < big) (hm : m.natAbs < big) (hm0 : m ≠ 0) (ht : TabOf w) :
    Calls Tryz.prog 55 #[.string (str n), .string (str m)] w (StrPost (n / m) w) := by
  have HD := div_in n m w hn hm ht hm0
  unfold DivPost at HD
  unfold StrPost
  generalize str (n / m) = r at *
  generalize str (n % m) = q at *
  generalize str n = s at *
  generalize str m = t at *
  have HD := Lib.hid HD
  go_enter Tryz.func55, Tryz.ntmps55
  go_wp2_with (go_at_call 51; refine HD.out.mono ?_; rintro e w1 ⟨rfl, hb1⟩)
  go_ret
  exact ⟨rfl, hb1⟩

theorem one_big : (1 : Int).natAbs < big := by
  have h1 : 1 < big := by rw [big_eq]; exact Nat.one_lt_pow (by omega) (by omega)
  simpa using h1

def cdv (n m : Int) : Int := if n % m = 0 then n / m else n / m + 1

set_option maxRecDepth 100000 in
set_option maxHeartbeats 1000000 in
theorem sup_in (n m : Int) (w : World) (hn : n.natAbs < big) (hm : m.natAbs < big) (hm0 : m ≠ 0) (hr : (n / m + 1).natAbs < big) (ht : TabOf w) :
    Calls Tryz.prog 83 #[.string (str n), .string (str m)] w (StrPost (cdv n m) w) := by
  have HD := div_in n m w hn hm ht hm0
  have HA := fun W h => sadd_in (n / m) 1 W (div_small hm0 hn hm).1 one_big hr h
  have h48 := str_test0 (n % m)
  unfold DivPost at HD
  unfold StrPost at HA ⊢
  rw [str_one] at HA
  unfold cdv
  by_cases h0 : n % m = 0
  · rw [if_pos h0]
    rw [decide_eq_true h0] at h48
    clear h0
    generalize str (n / m) = r at *
    generalize str (n % m) = q at *
    generalize str n = s at *
    generalize str m = t at *
    clear HA
    have HD := Lib.hid HD
    go_enter Tryz.func83, Tryz.ntmps83
    go_wp2_with (go_at_call 51; refine HD.out.mono ?_; rintro e w1 ⟨rfl, hb1⟩)
    go_ret
    exact ⟨rfl, hb1⟩
  · rw [if_neg h0]
    rw [decide_eq_false h0] at h48
    clear h0
    generalize str (n / m + 1) = r1 at *
    generalize str (n / m) = r at *
    generalize str (n % m) = q at *
    generalize str n = s at *
    generalize str m = t at *
    have HD := Lib.hid HD
    have HA := Lib.hid HA
    go_enter Tryz.func83, Tryz.ntmps83
    go_wp2_with (first
      | (go_at_call 51; refine HD.out.mono ?_; rintro e w1 ⟨rfl, hb1⟩)
      | (go_at_call 56; refine (HA.out _ (ht.below hb1)).mono ?_; rintro e w2 ⟨rfl, hb2⟩))
    go_ret
    exact ⟨rfl, hb1.trans (hb2.mono hb1.size)⟩

def SV (k : Nat) : Value := .agg #[.int .i64 k, .string (str ((10 ^ k : Nat) : Int))]

set_option maxRecDepth 100000 in
set_option maxHeartbeats 1000000 in
theorem sat_in (k : Nat) (hk : k ≤ 150) (w : World) :
    Calls Tryz.prog 46 #[.int .i64 k] w fun e w' => e = .returned (SV k) ∧ Below w.heap.size w w' := by
  have HST := str_ten k
  unfold SV
  generalize str ((10 ^ k : Nat) : Int) = tt at *
  have bn := belowNew w (.cells #[.int .i64 0, .string ⟨#[]⟩] 59)
  have r0 := RC.new w 59 (.int .i64 0) (.string ⟨#[]⟩)
  have HCAT : Hid (({ data := #[49] } ++ { data := Array.replicate k 48 } : ByteArray) = tt) := Lib.hid (by rw [HST]; apply ByteArray.ext; simp)
  have hrep : ¬ (9223372036854775807 < 1 + k) := by omega
  clear HST
  go_enter Tryz.func46, Tryz.ntmps46
  go_wp2_with (go_at_call 89; refine (zeros_any k (by omega) _).mono ?_; rintro e w1 ⟨rfl, hb1⟩; have r1 := r0.below hb1; have b1 := bn.trans (hb1.mono bn.size); have e0 := r1.c00; have e1 := r1.c01; have e2 := r1.f0)
  have r5 := r1.put (.int .i64 k) (.string ({ data := #[49] } ++ { data := Array.replicate k 48 }))
  refine bodyPost_ret_by (v := .agg #[.int .i64 k, .string ({ data := #[49] } ++ { data := Array.replicate k 48 })]) (by simp [results, Tryz.f46, go_sem, r5.c00, r5.c01]) rfl ⟨by rw [HCAT.out], below_put2 b1 _ _ (Nat.le_refl _)⟩
end Go.Proofs.YtppbhnhmaocdnaaGreatDoor
namespace Go.Proofs.YtppbhnhmaocdnaaGreatDoor
open Go.RowKit Go.Shelf

theorem RC.drew {R : Nat} {W : World} {a b : Value} (h : RC R W a b) : RC R W.drew a b := ⟨h.c00, h.c01, h.f0⟩
theorem cell_put2 {R' b o : Nat} {W : World} {x : Value} (h : W.cell? ⟨b, o, none⟩ = some x) (hn : R' ≠ b) (a b' : Value) :
    ((W.setCell ⟨R', 0, none⟩ a).setCell ⟨R', 1, none⟩ b').cell? ⟨b, o, none⟩ = some x := setOther (setOther h hn _) hn _

theorem boxes2 (w : World) (T U : TypeId) (a1 b1 a2 b2 : Value) : ∃ W, W = (w.alloc (.cells #[a1, b1] T)).alloc (.cells #[a2, b2] U) ∧
    RC w.heap.size W a1 b1 ∧ RC (w.heap.size + 1) W a2 b2 ∧ Below w.heap.size w W := by
  have n1 := belowNew w (.cells #[a1, b1] T)
  have n2 := belowNew (w.alloc (.cells #[a1, b1] T)) (.cells #[a2, b2] U)
  have k1 := (RC.new w T a1 b1).below n2
  have k2 := RC.new (w.alloc (.cells #[a1, b1] T)) U a2 b2
  rw [sizeNew] at k2
  exact ⟨_, rfl, k1, k2, n1.trans (n2.mono n1.size)⟩

theorem boxes3 (w : World) (T U V : TypeId) (a1 b1 a2 b2 a3 b3 : Value) : ∃ W, W = ((w.alloc (.cells #[a1, b1] T)).alloc (.cells #[a2, b2] U)).alloc (.cells #[a3, b3] V) ∧
    RC w.heap.size W a1 b1 ∧ RC (w.heap.size + 1) W a2 b2 ∧ RC (w.heap.size + 1 + 1) W a3 b3 ∧ Below w.heap.size w W := by
  obtain ⟨W1, h1, k1, k2, l⟩ := boxes2 w T U a1 b1 a2 b2
  have n3 := belowNew W1 (.cells #[a3, b3] V)
  have k3 := RC.new W1 V a3 b3
  have e : W1.heap.size = w.heap.size + 1 + 1 := by rw [h1, sizeNew, sizeNew]
  rw [e] at k3
  exact ⟨_, by rw [← h1], k1.below n3, k2.below n3, k3, l.trans (n3.mono l.size)⟩

theorem boxes4 (w : World) (T U V X : TypeId) (a1 b1 a2 b2 a3 b3 a4 b4 : Value) : ∃ W, W = (((w.alloc (.cells #[a1, b1] T)).alloc (.cells #[a2, b2] U)).alloc (.cells #[a3, b3] V)).alloc (.cells #[a4, b4] X) ∧
    RC w.heap.size W a1 b1 ∧ RC (w.heap.size + 1) W a2 b2 ∧ RC (w.heap.size + 1 + 1) W a3 b3 ∧ RC (w.heap.size + 1 + 1 + 1) W a4 b4 ∧ Below w.heap.size w W := by
  obtain ⟨W1, h1, k1, k2, k3, l⟩ := boxes3 w T U V a1 b1 a2 b2 a3 b3
  have n4 := belowNew W1 (.cells #[a4, b4] X)
  have k4 := RC.new W1 X a4 b4
  have e : W1.heap.size = w.heap.size + 1 + 1 + 1 := by rw [h1, sizeNew, sizeNew, sizeNew]
  rw [e] at k4
  exact ⟨_, by rw [← h1], k1.below n4, k2.below n4, k3.below n4, k4, l.trans (n4.mono l.size)⟩

theorem ten_big {k : Nat} (h : k ≤ 150) : ((10 ^ k : Nat) : Int).natAbs < big := by
  rw [Int.natAbs_natCast, big_eq]; exact Nat.pow_lt_pow_right (by omega) (by omega)
theorem ten_ne (k : Nat) : ((10 ^ k : Nat) : Int) ≠ 0 := by have := Nat.pow_pos (n := k) (show 0 < 10 by omega); omega

theorem small_big {n : Int} (h : n.natAbs ≤ 1000000000000000000) : n.natAbs < big := by
  have hbig : 1000000000000000000 < big := by rw [big_eq]; exact Nat.lt_of_lt_of_le (show _ < 10 ^ 19 by decide) (Nat.pow_le_pow_right (by omega) (by omega))
  omega


set_option maxRecDepth 100000 in
set_option maxHeartbeats 8000000 in
theorem sof_in (k : Nat) (n d : Int) (w : World) (hk : k ≤ 150) (hn : n.natAbs < big) (hd : d.natAbs < big) (hd0 : d ≠ 0) (hm : (n * ((10 ^ k : Nat) : Int)).natAbs < big) (hu : (n * ((10 ^ k : Nat) : Int) / d + 1).natAbs < big) (ht : TabOf w) :
    Calls Tryz.prog 43 #[SV k, .agg #[.string (str n), .string (str d)]] w fun e w' => e = .returned (.agg #[.string (str (n * ((10 ^ k : Nat) : Int) / d)), .string (str (cdv (n * ((10 ^ k : Nat) : Int)) d))]) ∧ Below w.heap.size w w' := by
  have HM := fun W h => smul_in n ((10 ^ k : Nat) : Int) W hn (ten_big hk) hm h
  have HD := fun W h => sdown_in (n * ((10 ^ k : Nat) : Int)) d W hm hd hd0 h
  have HU := fun W h => sup_in (n * ((10 ^ k : Nat) : Int)) d W hm hd hd0 hu h
  unfold StrPost at HM HD HU
  unfold SV
  generalize str (n * ((10 ^ k : Nat) : Int) / d) = lo at *
  generalize str (cdv (n * ((10 ^ k : Nat) : Int)) d) = hi at *
  generalize str (n * ((10 ^ k : Nat) : Int)) = m at *
  generalize str ((10 ^ k : Nat) : Int) = one at *
  generalize str n = n' at *
  generalize str d = d' at *
  have HM := Lib.hid HM
  have HD := Lib.hid HD
  have HU := Lib.hid HU
  obtain ⟨W0, hW0, k0_0, k0_1, k0_2, b0⟩ := boxes3 w 59 25 61 (.int .i64 (k : Int)) (.string one) (.string n') (.string d') (.string ⟨#[]⟩) (.string ⟨#[]⟩)
  subst hW0
  have x0a := k0_0.c00
  have x0b := k0_0.c01
  have x1a := k0_1.c00
  have x1b := k0_1.c01
  go_enter Tryz.func43, Tryz.ntmps43
  go_wp2_with (first
    | (have HA := HM; go_at_call 54; refine (HA.out _ (ht.below b0)).mono ?_; clear HM HA; rintro e w1 ⟨rfl, hb1⟩; have k1_0 := k0_0.below hb1; have k1_1 := k0_1.below hb1; have k1_2 := k0_2.below hb1; have b1 := b0.trans (hb1.mono b0.size); have x0a := k1_0.c00; have x0b := k1_0.c01; have x1a := k1_1.c00; have x1b := k1_1.c01; have x2a := k1_2.c00; have x2b := k1_2.c01; have f2 := k1_2.f0))
  go_wp2
  have k1_0d := k1_0.drew
  have k1_1d := k1_1.drew
  have k1_2d := k1_2.drew
  have b1d := b1.drew
  go_region_held3 (fun W => W.cell? ⟨w.heap.size, 0, none⟩ = some (.int .i64 (k : Int)) ∧ W.cell? ⟨w.heap.size, 1, none⟩ = some (.string one) ∧ W.cell? ⟨w.heap.size + 1, 0, none⟩ = some (.string n') ∧ W.cell? ⟨w.heap.size + 1, 1, none⟩ = some (.string d'))
    (first | with_reducible exact ⟨k1_0d.c00, k1_0d.c01, k1_1d.c00, k1_1d.c01⟩ | with_reducible exact ⟨k2_0.c00, k2_0.c01, k2_1.c00, k2_1.c01⟩ | with_reducible exact ⟨k3_0.c00, k3_0.c01, k3_1.c00, k3_1.c01⟩ | exact ⟨cell_put2 k3_0.c00 (by omega) _ _, cell_put2 k3_0.c01 (by omega) _ _, cell_put2 k3_1.c00 (by omega) _ _, cell_put2 k3_1.c01 (by omega) _ _⟩) (first
    | (have HA := HD; go_at_call 55; refine (HA.out (World.drew _) (ht.below b1d)).mono ?_; clear HD HA; rintro e w2 ⟨rfl, hb2⟩; have k2_0 := k1_0d.below hb2; have k2_1 := k1_1d.below hb2; have k2_2 := k1_2d.below hb2; have b2 := b1d.trans (hb2.mono b1d.size); have x0a := k2_0.c00; have x0b := k2_0.c01; have x1a := k2_1.c00; have x1b := k2_1.c01; have x2a := k2_2.c00; have x2b := k2_2.c01; have f2 := k2_2.f0)
    | (have HA := HU; go_at_call 83; refine (HA.out _ (ht.below b2)).mono ?_; clear HU HA; rintro e w3 ⟨rfl, hb3⟩; have k3_0 := k2_0.below hb3; have k3_1 := k2_1.below hb3; have k3_2 := k2_2.below hb3; have b3 := b2.trans (hb3.mono b2.size); have x0a := k3_0.c00; have x0b := k3_0.c01; have x1a := k3_1.c00; have x1b := k3_1.c01; have x2a := k3_2.c00; have x2b := k3_2.c01; have f2 := k3_2.f0))
  have x0a := k3_0.c00
  have x0b := k3_0.c01
  have x1a := k3_1.c00
  have x1b := k3_1.c01
  have x2a := k3_2.c00
  have x2b := k3_2.c01
  have f2 := k3_2.f0
  all_goals go_wp2
  have r5 := k3_2.put (.string lo) (.string hi)
  refine bodyPost_ret_by (v := .agg #[.string lo, .string hi]) (by simp [results, Tryz.f43, go_sem, r5.c00, r5.c01]) rfl ⟨rfl, below_put2 b3 _ _ (by omega)⟩

set_option maxRecDepth 100000 in
set_option maxHeartbeats 8000000 in
theorem splus2_in (k : Nat) (a b c d : Int) (w : World) (ha : a.natAbs < big) (hb : b.natAbs < big) (hc : c.natAbs < big) (hd : d.natAbs < big) (h1 : (a + c).natAbs < big) (h2 : (b + d).natAbs < big) (ht : TabOf w) :
    Calls Tryz.prog 91 #[SV k, .agg #[.string (str a), .string (str b)], .agg #[.string (str c), .string (str d)]] w fun e w' => e = .returned (.agg #[.string (str (a + c)), .string (str (b + d))]) ∧ Below w.heap.size w w' := by
  have H1 := fun W h => sadd_in a c W ha hc h1 h
  have H2 := fun W h => sadd_in b d W hb hd h2 h
  unfold StrPost at H1 H2
  unfold SV
  generalize str (a + c) = lo at *
  generalize str (b + d) = hi at *
  generalize str ((10 ^ k : Nat) : Int) = one at *
  generalize str a = a' at *
  generalize str b = b' at *
  generalize str c = c' at *
  generalize str d = d' at *
  have H1 := Lib.hid H1
  have H2 := Lib.hid H2
  obtain ⟨W0, hW0, k0_0, k0_1, k0_2, k0_3, b0⟩ := boxes4 w 59 61 61 61 (.int .i64 (k : Int)) (.string one) (.string a') (.string b') (.string c') (.string d') (.string ⟨#[]⟩) (.string ⟨#[]⟩)
  subst hW0
  go_enter Tryz.func91, Tryz.ntmps91
  go_wp2
  have k0_0d := k0_0.drew
  have k0_1d := k0_1.drew
  have k0_2d := k0_2.drew
  have k0_3d := k0_3.drew
  have b0d := b0.drew
  go_region_held3 (fun W => W.cell? ⟨w.heap.size, 0, none⟩ = some (.int .i64 (k : Int)) ∧ W.cell? ⟨w.heap.size, 1, none⟩ = some (.string one) ∧ W.cell? ⟨w.heap.size + 1, 0, none⟩ = some (.string a') ∧ W.cell? ⟨w.heap.size + 1, 1, none⟩ = some (.string b') ∧ W.cell? ⟨w.heap.size + 1 + 1, 0, none⟩ = some (.string c') ∧ W.cell? ⟨w.heap.size + 1 + 1, 1, none⟩ = some (.string d'))
    (first | with_reducible exact ⟨k0_0d.c00, k0_0d.c01, k0_1d.c00, k0_1d.c01, k0_2d.c00, k0_2d.c01⟩ | with_reducible exact ⟨k1_0.c00, k1_0.c01, k1_1.c00, k1_1.c01, k1_2.c00, k1_2.c01⟩ | with_reducible exact ⟨k2_0.c00, k2_0.c01, k2_1.c00, k2_1.c01, k2_2.c00, k2_2.c01⟩ | exact ⟨cell_put2 k2_0.c00 (by omega) _ _, cell_put2 k2_0.c01 (by omega) _ _, cell_put2 k2_1.c00 (by omega) _ _, cell_put2 k2_1.c01 (by omega) _ _, cell_put2 k2_2.c00 (by omega) _ _, cell_put2 k2_2.c01 (by omega) _ _⟩) (first
    | (have HA := H1; go_at_call 56; refine (HA.out (World.drew _) (ht.below b0d)).mono ?_; clear H1 HA; rintro e w1 ⟨rfl, hb1⟩; have k1_0 := k0_0d.below hb1; have k1_1 := k0_1d.below hb1; have k1_2 := k0_2d.below hb1; have k1_3 := k0_3d.below hb1; have b1 := b0d.trans (hb1.mono b0d.size); have x0a := k1_0.c00; have x0b := k1_0.c01; have x1a := k1_1.c00; have x1b := k1_1.c01; have x2a := k1_2.c00; have x2b := k1_2.c01; have x3a := k1_3.c00; have x3b := k1_3.c01; have f3 := k1_3.f0)
    | (have HA := H2; go_at_call 56; refine (HA.out _ (ht.below b1)).mono ?_; clear H2 HA; rintro e w2 ⟨rfl, hb2⟩; have k2_0 := k1_0.below hb2; have k2_1 := k1_1.below hb2; have k2_2 := k1_2.below hb2; have k2_3 := k1_3.below hb2; have b2 := b1.trans (hb2.mono b1.size); have x0a := k2_0.c00; have x0b := k2_0.c01; have x1a := k2_1.c00; have x1b := k2_1.c01; have x2a := k2_2.c00; have x2b := k2_2.c01; have x3a := k2_3.c00; have x3b := k2_3.c01; have f3 := k2_3.f0))
  have x0a := k2_0.c00
  have x0b := k2_0.c01
  have x1a := k2_1.c00
  have x1b := k2_1.c01
  have x2a := k2_2.c00
  have x2b := k2_2.c01
  have x3a := k2_3.c00
  have x3b := k2_3.c01
  have f3 := k2_3.f0
  all_goals go_wp2
  have r5 := k2_3.put (.string lo) (.string hi)
  refine bodyPost_ret_by (v := .agg #[.string lo, .string hi]) (by simp [results, Tryz.f91, go_sem, r5.c00, r5.c01]) rfl ⟨rfl, below_put2 b2 _ _ (by omega)⟩

set_option maxRecDepth 100000 in
set_option maxHeartbeats 8000000 in
theorem sminus_in (k : Nat) (a b c d : Int) (w : World) (ha : a.natAbs < big) (hb : b.natAbs < big) (hc : c.natAbs < big) (hd : d.natAbs < big) (h1 : (a - d).natAbs < big) (h2 : (b - c).natAbs < big) (ht : TabOf w) :
    Calls Tryz.prog 107 #[SV k, .agg #[.string (str a), .string (str b)], .agg #[.string (str c), .string (str d)]] w fun e w' => e = .returned (.agg #[.string (str (a - d)), .string (str (b - c))]) ∧ Below w.heap.size w w' := by
  have H1 := fun W h => ssub_in a d W ha hd h1 h
  have H2 := fun W h => ssub_in b c W hb hc h2 h
  unfold StrPost at H1 H2
  unfold SV
  generalize str (a - d) = lo at *
  generalize str (b - c) = hi at *
  generalize str ((10 ^ k : Nat) : Int) = one at *
  generalize str a = a' at *
  generalize str b = b' at *
  generalize str c = c' at *
  generalize str d = d' at *
  have H1 := Lib.hid H1
  have H2 := Lib.hid H2
  obtain ⟨W0, hW0, k0_0, k0_1, k0_2, k0_3, b0⟩ := boxes4 w 59 61 61 61 (.int .i64 (k : Int)) (.string one) (.string a') (.string b') (.string c') (.string d') (.string ⟨#[]⟩) (.string ⟨#[]⟩)
  subst hW0
  go_enter Tryz.func107, Tryz.ntmps107
  go_wp2
  have k0_0d := k0_0.drew
  have k0_1d := k0_1.drew
  have k0_2d := k0_2.drew
  have k0_3d := k0_3.drew
  have b0d := b0.drew
  go_region_held3 (fun W => W.cell? ⟨w.heap.size, 0, none⟩ = some (.int .i64 (k : Int)) ∧ W.cell? ⟨w.heap.size, 1, none⟩ = some (.string one) ∧ W.cell? ⟨w.heap.size + 1, 0, none⟩ = some (.string a') ∧ W.cell? ⟨w.heap.size + 1, 1, none⟩ = some (.string b') ∧ W.cell? ⟨w.heap.size + 1 + 1, 0, none⟩ = some (.string c') ∧ W.cell? ⟨w.heap.size + 1 + 1, 1, none⟩ = some (.string d'))
    (first | with_reducible exact ⟨k0_0d.c00, k0_0d.c01, k0_1d.c00, k0_1d.c01, k0_2d.c00, k0_2d.c01⟩ | with_reducible exact ⟨k1_0.c00, k1_0.c01, k1_1.c00, k1_1.c01, k1_2.c00, k1_2.c01⟩ | with_reducible exact ⟨k2_0.c00, k2_0.c01, k2_1.c00, k2_1.c01, k2_2.c00, k2_2.c01⟩ | exact ⟨cell_put2 k2_0.c00 (by omega) _ _, cell_put2 k2_0.c01 (by omega) _ _, cell_put2 k2_1.c00 (by omega) _ _, cell_put2 k2_1.c01 (by omega) _ _, cell_put2 k2_2.c00 (by omega) _ _, cell_put2 k2_2.c01 (by omega) _ _⟩) (first
    | (have HA := H1; go_at_call 49; refine (HA.out (World.drew _) (ht.below b0d)).mono ?_; clear H1 HA; rintro e w1 ⟨rfl, hb1⟩; have k1_0 := k0_0d.below hb1; have k1_1 := k0_1d.below hb1; have k1_2 := k0_2d.below hb1; have k1_3 := k0_3d.below hb1; have b1 := b0d.trans (hb1.mono b0d.size); have x0a := k1_0.c00; have x0b := k1_0.c01; have x1a := k1_1.c00; have x1b := k1_1.c01; have x2a := k1_2.c00; have x2b := k1_2.c01; have x3a := k1_3.c00; have x3b := k1_3.c01; have f3 := k1_3.f0)
    | (have HA := H2; go_at_call 49; refine (HA.out _ (ht.below b1)).mono ?_; clear H2 HA; rintro e w2 ⟨rfl, hb2⟩; have k2_0 := k1_0.below hb2; have k2_1 := k1_1.below hb2; have k2_2 := k1_2.below hb2; have k2_3 := k1_3.below hb2; have b2 := b1.trans (hb2.mono b1.size); have x0a := k2_0.c00; have x0b := k2_0.c01; have x1a := k2_1.c00; have x1b := k2_1.c01; have x2a := k2_2.c00; have x2b := k2_2.c01; have x3a := k2_3.c00; have x3b := k2_3.c01; have f3 := k2_3.f0))
  have x0a := k2_0.c00
  have x0b := k2_0.c01
  have x1a := k2_1.c00
  have x1b := k2_1.c01
  have x2a := k2_2.c00
  have x2b := k2_2.c01
  have x3a := k2_3.c00
  have x3b := k2_3.c01
  have f3 := k2_3.f0
  all_goals go_wp2
  have r5 := k2_3.put (.string lo) (.string hi)
  refine bodyPost_ret_by (v := .agg #[.string lo, .string hi]) (by simp [results, Tryz.f107, go_sem, r5.c00, r5.c01]) rfl ⟨rfl, below_put2 b2 _ _ (by omega)⟩

set_option maxRecDepth 100000 in
set_option maxHeartbeats 8000000 in
theorem stimes_in (k : Nat) (a b c d : Int) (w : World) (hk : k ≤ 150) (ha : a.natAbs < big) (hb : b.natAbs < big) (hc : c.natAbs < big) (hd : d.natAbs < big) (h1 : (a * c).natAbs < big) (h2 : (b * d).natAbs < big) (h3 : (b * d / ((10 ^ k : Nat) : Int) + 1).natAbs < big) (ht : TabOf w) :
    Calls Tryz.prog 88 #[SV k, .agg #[.string (str a), .string (str b)], .agg #[.string (str c), .string (str d)]] w fun e w' => e = .returned (.agg #[.string (str (a * c / ((10 ^ k : Nat) : Int))), .string (str (cdv (b * d) ((10 ^ k : Nat) : Int)))]) ∧ Below w.heap.size w w' := by
  have H1 := fun W h => smul_in a c W ha hc h1 h
  have H2 := fun W h => sdown_in (a * c) ((10 ^ k : Nat) : Int) W h1 (ten_big hk) (ten_ne k) h
  have H3 := fun W h => smul_in b d W hb hd h2 h
  have H4 := fun W h => sup_in (b * d) ((10 ^ k : Nat) : Int) W h2 (ten_big hk) (ten_ne k) h3 h
  unfold StrPost at H1 H2 H3 H4
  unfold SV
  generalize str (a * c / ((10 ^ k : Nat) : Int)) = lo at *
  generalize str (cdv (b * d) ((10 ^ k : Nat) : Int)) = hi at *
  generalize str (a * c) = m1 at *
  generalize str (b * d) = m2 at *
  generalize str ((10 ^ k : Nat) : Int) = one at *
  generalize str a = a' at *
  generalize str b = b' at *
  generalize str c = c' at *
  generalize str d = d' at *
  have H1 := Lib.hid H1
  have H2 := Lib.hid H2
  have H3 := Lib.hid H3
  have H4 := Lib.hid H4
  obtain ⟨W0, hW0, k0_0, k0_1, k0_2, k0_3, b0⟩ := boxes4 w 59 61 61 61 (.int .i64 (k : Int)) (.string one) (.string a') (.string b') (.string c') (.string d') (.string ⟨#[]⟩) (.string ⟨#[]⟩)
  subst hW0
  go_enter Tryz.func88, Tryz.ntmps88
  go_wp2
  have k0_0d := k0_0.drew
  have k0_1d := k0_1.drew
  have k0_2d := k0_2.drew
  have k0_3d := k0_3.drew
  have b0d := b0.drew
  go_region_held3 (fun W => W.cell? ⟨w.heap.size, 0, none⟩ = some (.int .i64 (k : Int)) ∧ W.cell? ⟨w.heap.size, 1, none⟩ = some (.string one) ∧ W.cell? ⟨w.heap.size + 1, 0, none⟩ = some (.string a') ∧ W.cell? ⟨w.heap.size + 1, 1, none⟩ = some (.string b') ∧ W.cell? ⟨w.heap.size + 1 + 1, 0, none⟩ = some (.string c') ∧ W.cell? ⟨w.heap.size + 1 + 1, 1, none⟩ = some (.string d'))
    (first | with_reducible exact ⟨k0_0d.c00, k0_0d.c01, k0_1d.c00, k0_1d.c01, k0_2d.c00, k0_2d.c01⟩ | with_reducible exact ⟨k1_0.c00, k1_0.c01, k1_1.c00, k1_1.c01, k1_2.c00, k1_2.c01⟩ | with_reducible exact ⟨k2_0.c00, k2_0.c01, k2_1.c00, k2_1.c01, k2_2.c00, k2_2.c01⟩ | with_reducible exact ⟨k3_0.c00, k3_0.c01, k3_1.c00, k3_1.c01, k3_2.c00, k3_2.c01⟩ | with_reducible exact ⟨k4_0.c00, k4_0.c01, k4_1.c00, k4_1.c01, k4_2.c00, k4_2.c01⟩ | exact ⟨cell_put2 k4_0.c00 (by omega) _ _, cell_put2 k4_0.c01 (by omega) _ _, cell_put2 k4_1.c00 (by omega) _ _, cell_put2 k4_1.c01 (by omega) _ _, cell_put2 k4_2.c00 (by omega) _ _, cell_put2 k4_2.c01 (by omega) _ _⟩) (first
    | (have HA := H1; go_at_call 54; refine (HA.out (World.drew _) (ht.below b0d)).mono ?_; clear H1 HA; rintro e w1 ⟨rfl, hb1⟩; have k1_0 := k0_0d.below hb1; have k1_1 := k0_1d.below hb1; have k1_2 := k0_2d.below hb1; have k1_3 := k0_3d.below hb1; have b1 := b0d.trans (hb1.mono b0d.size); have x0a := k1_0.c00; have x0b := k1_0.c01; have x1a := k1_1.c00; have x1b := k1_1.c01; have x2a := k1_2.c00; have x2b := k1_2.c01; have x3a := k1_3.c00; have x3b := k1_3.c01; have f3 := k1_3.f0)
    | (have HA := H2; go_at_call 55; refine (HA.out _ (ht.below b1)).mono ?_; clear H2 HA; rintro e w2 ⟨rfl, hb2⟩; have k2_0 := k1_0.below hb2; have k2_1 := k1_1.below hb2; have k2_2 := k1_2.below hb2; have k2_3 := k1_3.below hb2; have b2 := b1.trans (hb2.mono b1.size); have x0a := k2_0.c00; have x0b := k2_0.c01; have x1a := k2_1.c00; have x1b := k2_1.c01; have x2a := k2_2.c00; have x2b := k2_2.c01; have x3a := k2_3.c00; have x3b := k2_3.c01; have f3 := k2_3.f0)
    | (have HA := H3; go_at_call 54; refine (HA.out _ (ht.below b2)).mono ?_; clear H3 HA; rintro e w3 ⟨rfl, hb3⟩; have k3_0 := k2_0.below hb3; have k3_1 := k2_1.below hb3; have k3_2 := k2_2.below hb3; have k3_3 := k2_3.below hb3; have b3 := b2.trans (hb3.mono b2.size); have x0a := k3_0.c00; have x0b := k3_0.c01; have x1a := k3_1.c00; have x1b := k3_1.c01; have x2a := k3_2.c00; have x2b := k3_2.c01; have x3a := k3_3.c00; have x3b := k3_3.c01; have f3 := k3_3.f0)
    | (have HA := H4; go_at_call 83; refine (HA.out _ (ht.below b3)).mono ?_; clear H4 HA; rintro e w4 ⟨rfl, hb4⟩; have k4_0 := k3_0.below hb4; have k4_1 := k3_1.below hb4; have k4_2 := k3_2.below hb4; have k4_3 := k3_3.below hb4; have b4 := b3.trans (hb4.mono b3.size); have x0a := k4_0.c00; have x0b := k4_0.c01; have x1a := k4_1.c00; have x1b := k4_1.c01; have x2a := k4_2.c00; have x2b := k4_2.c01; have x3a := k4_3.c00; have x3b := k4_3.c01; have f3 := k4_3.f0))
  have x0a := k4_0.c00
  have x0b := k4_0.c01
  have x1a := k4_1.c00
  have x1b := k4_1.c01
  have x2a := k4_2.c00
  have x2b := k4_2.c01
  have x3a := k4_3.c00
  have x3b := k4_3.c01
  have f3 := k4_3.f0
  all_goals go_wp2
  have r5 := k4_3.put (.string lo) (.string hi)
  refine bodyPost_ret_by (v := .agg #[.string lo, .string hi]) (by simp [results, Tryz.f88, go_sem, r5.c00, r5.c01]) rfl ⟨rfl, below_put2 b4 _ _ (by omega)⟩

set_option maxRecDepth 100000 in
set_option maxHeartbeats 8000000 in
theorem sover_in (k : Nat) (a b c d : Int) (w : World) (hk : k ≤ 150) (ha : a.natAbs < big) (hb : b.natAbs < big) (hc : c.natAbs < big) (hd : d.natAbs < big) (hc0 : c ≠ 0) (hd0 : d ≠ 0) (h1 : (a * ((10 ^ k : Nat) : Int)).natAbs < big) (h2 : (b * ((10 ^ k : Nat) : Int)).natAbs < big) (h3 : (b * ((10 ^ k : Nat) : Int) / c + 1).natAbs < big) (ht : TabOf w) :
    Calls Tryz.prog 40 #[SV k, .agg #[.string (str a), .string (str b)], .agg #[.string (str c), .string (str d)]] w fun e w' => e = .returned (.agg #[.string (str (a * ((10 ^ k : Nat) : Int) / d)), .string (str (cdv (b * ((10 ^ k : Nat) : Int)) c))]) ∧ Below w.heap.size w w' := by
  have H1 := fun W h => smul_in a ((10 ^ k : Nat) : Int) W ha (ten_big hk) h1 h
  have H2 := fun W h => sdown_in (a * ((10 ^ k : Nat) : Int)) d W h1 hd hd0 h
  have H3 := fun W h => smul_in b ((10 ^ k : Nat) : Int) W hb (ten_big hk) h2 h
  have H4 := fun W h => sup_in (b * ((10 ^ k : Nat) : Int)) c W h2 hc hc0 h3 h
  unfold StrPost at H1 H2 H3 H4
  unfold SV
  generalize str (a * ((10 ^ k : Nat) : Int) / d) = lo at *
  generalize str (cdv (b * ((10 ^ k : Nat) : Int)) c) = hi at *
  generalize str (a * ((10 ^ k : Nat) : Int)) = m1 at *
  generalize str (b * ((10 ^ k : Nat) : Int)) = m2 at *
  generalize str ((10 ^ k : Nat) : Int) = one at *
  generalize str a = a' at *
  generalize str b = b' at *
  generalize str c = c' at *
  generalize str d = d' at *
  have H1 := Lib.hid H1
  have H2 := Lib.hid H2
  have H3 := Lib.hid H3
  have H4 := Lib.hid H4
  obtain ⟨W0, hW0, k0_0, k0_1, k0_2, k0_3, b0⟩ := boxes4 w 59 61 61 61 (.int .i64 (k : Int)) (.string one) (.string a') (.string b') (.string c') (.string d') (.string ⟨#[]⟩) (.string ⟨#[]⟩)
  subst hW0
  go_enter Tryz.func40, Tryz.ntmps40
  go_wp2
  have k0_0d := k0_0.drew
  have k0_1d := k0_1.drew
  have k0_2d := k0_2.drew
  have k0_3d := k0_3.drew
  have b0d := b0.drew
  go_region_held3 (fun W => W.cell? ⟨w.heap.size, 0, none⟩ = some (.int .i64 (k : Int)) ∧ W.cell? ⟨w.heap.size, 1, none⟩ = some (.string one) ∧ W.cell? ⟨w.heap.size + 1, 0, none⟩ = some (.string a') ∧ W.cell? ⟨w.heap.size + 1, 1, none⟩ = some (.string b') ∧ W.cell? ⟨w.heap.size + 1 + 1, 0, none⟩ = some (.string c') ∧ W.cell? ⟨w.heap.size + 1 + 1, 1, none⟩ = some (.string d'))
    (first | with_reducible exact ⟨k0_0d.c00, k0_0d.c01, k0_1d.c00, k0_1d.c01, k0_2d.c00, k0_2d.c01⟩ | with_reducible exact ⟨k1_0.c00, k1_0.c01, k1_1.c00, k1_1.c01, k1_2.c00, k1_2.c01⟩ | with_reducible exact ⟨k2_0.c00, k2_0.c01, k2_1.c00, k2_1.c01, k2_2.c00, k2_2.c01⟩ | with_reducible exact ⟨k3_0.c00, k3_0.c01, k3_1.c00, k3_1.c01, k3_2.c00, k3_2.c01⟩ | with_reducible exact ⟨k4_0.c00, k4_0.c01, k4_1.c00, k4_1.c01, k4_2.c00, k4_2.c01⟩ | exact ⟨cell_put2 k4_0.c00 (by omega) _ _, cell_put2 k4_0.c01 (by omega) _ _, cell_put2 k4_1.c00 (by omega) _ _, cell_put2 k4_1.c01 (by omega) _ _, cell_put2 k4_2.c00 (by omega) _ _, cell_put2 k4_2.c01 (by omega) _ _⟩) (first
    | (have HA := H1; go_at_call 54; refine (HA.out (World.drew _) (ht.below b0d)).mono ?_; clear H1 HA; rintro e w1 ⟨rfl, hb1⟩; have k1_0 := k0_0d.below hb1; have k1_1 := k0_1d.below hb1; have k1_2 := k0_2d.below hb1; have k1_3 := k0_3d.below hb1; have b1 := b0d.trans (hb1.mono b0d.size); have x0a := k1_0.c00; have x0b := k1_0.c01; have x1a := k1_1.c00; have x1b := k1_1.c01; have x2a := k1_2.c00; have x2b := k1_2.c01; have x3a := k1_3.c00; have x3b := k1_3.c01; have f3 := k1_3.f0)
    | (have HA := H2; go_at_call 55; refine (HA.out _ (ht.below b1)).mono ?_; clear H2 HA; rintro e w2 ⟨rfl, hb2⟩; have k2_0 := k1_0.below hb2; have k2_1 := k1_1.below hb2; have k2_2 := k1_2.below hb2; have k2_3 := k1_3.below hb2; have b2 := b1.trans (hb2.mono b1.size); have x0a := k2_0.c00; have x0b := k2_0.c01; have x1a := k2_1.c00; have x1b := k2_1.c01; have x2a := k2_2.c00; have x2b := k2_2.c01; have x3a := k2_3.c00; have x3b := k2_3.c01; have f3 := k2_3.f0)
    | (have HA := H3; go_at_call 54; refine (HA.out _ (ht.below b2)).mono ?_; clear H3 HA; rintro e w3 ⟨rfl, hb3⟩; have k3_0 := k2_0.below hb3; have k3_1 := k2_1.below hb3; have k3_2 := k2_2.below hb3; have k3_3 := k2_3.below hb3; have b3 := b2.trans (hb3.mono b2.size); have x0a := k3_0.c00; have x0b := k3_0.c01; have x1a := k3_1.c00; have x1b := k3_1.c01; have x2a := k3_2.c00; have x2b := k3_2.c01; have x3a := k3_3.c00; have x3b := k3_3.c01; have f3 := k3_3.f0)
    | (have HA := H4; go_at_call 83; refine (HA.out _ (ht.below b3)).mono ?_; clear H4 HA; rintro e w4 ⟨rfl, hb4⟩; have k4_0 := k3_0.below hb4; have k4_1 := k3_1.below hb4; have k4_2 := k3_2.below hb4; have k4_3 := k3_3.below hb4; have b4 := b3.trans (hb4.mono b3.size); have x0a := k4_0.c00; have x0b := k4_0.c01; have x1a := k4_1.c00; have x1b := k4_1.c01; have x2a := k4_2.c00; have x2b := k4_2.c01; have x3a := k4_3.c00; have x3b := k4_3.c01; have f3 := k4_3.f0))
  have x0a := k4_0.c00
  have x0b := k4_0.c01
  have x1a := k4_1.c00
  have x1b := k4_1.c01
  have x2a := k4_2.c00
  have x2b := k4_2.c01
  have x3a := k4_3.c00
  have x3b := k4_3.c01
  have f3 := k4_3.f0
  all_goals go_wp2
  have r5 := k4_3.put (.string lo) (.string hi)
  refine bodyPost_ret_by (v := .agg #[.string lo, .string hi]) (by simp [results, Tryz.f40, go_sem, r5.c00, r5.c01]) rfl ⟨rfl, below_put2 b4 _ _ (by omega)⟩

set_option maxRecDepth 100000 in
set_option maxHeartbeats 8000000 in
theorem sby_in (k : Nat) (a b n d : Int) (w : World) (ha : a.natAbs < big) (hb : b.natAbs < big) (hn : n.natAbs ≤ 1000000000000000000) (hd : d.natAbs ≤ 1000000000000000000) (hd0 : d ≠ 0) (h1 : (a * n).natAbs < big) (h2 : (b * n).natAbs < big) (h3 : (b * n / d + 1).natAbs < big) (ht : TabOf w) :
    Calls Tryz.prog 84 #[SV k, .agg #[.string (str a), .string (str b)], .int .i64 n, .int .i64 d] w fun e w' => e = .returned (.agg #[.string (str (a * n / d)), .string (str (cdv (b * n) d))]) ∧ Below w.heap.size w w' := by
  have HN := fun W h => fromInt_in n W hn h
  have HD := fun W h => fromInt_in d W hd h
  have H1 := fun W h => smul_in a n W ha (small_big hn) h1 h
  have H2 := fun W h => sdown_in (a * n) d W h1 (small_big hd) hd0 h
  have H3 := fun W h => smul_in b n W hb (small_big hn) h2 h
  have H4 := fun W h => sup_in (b * n) d W h2 (small_big hd) hd0 h3 h
  unfold StrPost at HN HD H1 H2 H3 H4
  unfold SV
  generalize str (a * n / d) = lo at *
  generalize str (cdv (b * n) d) = hi at *
  generalize str (a * n) = m1 at *
  generalize str (b * n) = m2 at *
  generalize str ((10 ^ k : Nat) : Int) = one at *
  generalize str a = a' at *
  generalize str b = b' at *
  generalize str n = n' at *
  generalize str d = d' at *
  have HN := Lib.hid HN
  have HD := Lib.hid HD
  have H1 := Lib.hid H1
  have H2 := Lib.hid H2
  have H3 := Lib.hid H3
  have H4 := Lib.hid H4
  obtain ⟨W0, hW0, k0_0, k0_1, k0_2, b0⟩ := boxes3 w 59 61 61 (.int .i64 (k : Int)) (.string one) (.string a') (.string b') (.string ⟨#[]⟩) (.string ⟨#[]⟩)
  subst hW0
  have x0a := k0_0.c00
  have x0b := k0_0.c01
  have x1a := k0_1.c00
  have x1b := k0_1.c01
  go_enter Tryz.func84, Tryz.ntmps84
  go_wp2_with (first
    | (have HA := HN; go_at_call 81; refine (HA.out _ (ht.below b0)).mono ?_; clear HN HA; rintro e w1 ⟨rfl, hb1⟩; have k1_0 := k0_0.below hb1; have k1_1 := k0_1.below hb1; have k1_2 := k0_2.below hb1; have b1 := b0.trans (hb1.mono b0.size); have x0a := k1_0.c00; have x0b := k1_0.c01; have x1a := k1_1.c00; have x1b := k1_1.c01; have x2a := k1_2.c00; have x2b := k1_2.c01; have f2 := k1_2.f0)
    | (have HA := HD; go_at_call 81; refine (HA.out _ (ht.below b1)).mono ?_; clear HD HA; rintro e w2 ⟨rfl, hb2⟩; have k2_0 := k1_0.below hb2; have k2_1 := k1_1.below hb2; have k2_2 := k1_2.below hb2; have b2 := b1.trans (hb2.mono b1.size); have x0a := k2_0.c00; have x0b := k2_0.c01; have x1a := k2_1.c00; have x1b := k2_1.c01; have x2a := k2_2.c00; have x2b := k2_2.c01; have f2 := k2_2.f0))
  go_wp2
  have k2_0d := k2_0.drew
  have k2_1d := k2_1.drew
  have k2_2d := k2_2.drew
  have b2d := b2.drew
  go_region_held3 (fun W => W.cell? ⟨w.heap.size, 0, none⟩ = some (.int .i64 (k : Int)) ∧ W.cell? ⟨w.heap.size, 1, none⟩ = some (.string one) ∧ W.cell? ⟨w.heap.size + 1, 0, none⟩ = some (.string a') ∧ W.cell? ⟨w.heap.size + 1, 1, none⟩ = some (.string b'))
    (first | with_reducible exact ⟨k2_0d.c00, k2_0d.c01, k2_1d.c00, k2_1d.c01⟩ | with_reducible exact ⟨k3_0.c00, k3_0.c01, k3_1.c00, k3_1.c01⟩ | with_reducible exact ⟨k4_0.c00, k4_0.c01, k4_1.c00, k4_1.c01⟩ | with_reducible exact ⟨k5_0.c00, k5_0.c01, k5_1.c00, k5_1.c01⟩ | with_reducible exact ⟨k6_0.c00, k6_0.c01, k6_1.c00, k6_1.c01⟩ | exact ⟨cell_put2 k6_0.c00 (by omega) _ _, cell_put2 k6_0.c01 (by omega) _ _, cell_put2 k6_1.c00 (by omega) _ _, cell_put2 k6_1.c01 (by omega) _ _⟩) (first
    | (have HA := H1; go_at_call 54; refine (HA.out (World.drew _) (ht.below b2d)).mono ?_; clear H1 HA; rintro e w3 ⟨rfl, hb3⟩; have k3_0 := k2_0d.below hb3; have k3_1 := k2_1d.below hb3; have k3_2 := k2_2d.below hb3; have b3 := b2d.trans (hb3.mono b2d.size); have x0a := k3_0.c00; have x0b := k3_0.c01; have x1a := k3_1.c00; have x1b := k3_1.c01; have x2a := k3_2.c00; have x2b := k3_2.c01; have f2 := k3_2.f0)
    | (have HA := H2; go_at_call 55; refine (HA.out _ (ht.below b3)).mono ?_; clear H2 HA; rintro e w4 ⟨rfl, hb4⟩; have k4_0 := k3_0.below hb4; have k4_1 := k3_1.below hb4; have k4_2 := k3_2.below hb4; have b4 := b3.trans (hb4.mono b3.size); have x0a := k4_0.c00; have x0b := k4_0.c01; have x1a := k4_1.c00; have x1b := k4_1.c01; have x2a := k4_2.c00; have x2b := k4_2.c01; have f2 := k4_2.f0)
    | (have HA := H3; go_at_call 54; refine (HA.out _ (ht.below b4)).mono ?_; clear H3 HA; rintro e w5 ⟨rfl, hb5⟩; have k5_0 := k4_0.below hb5; have k5_1 := k4_1.below hb5; have k5_2 := k4_2.below hb5; have b5 := b4.trans (hb5.mono b4.size); have x0a := k5_0.c00; have x0b := k5_0.c01; have x1a := k5_1.c00; have x1b := k5_1.c01; have x2a := k5_2.c00; have x2b := k5_2.c01; have f2 := k5_2.f0)
    | (have HA := H4; go_at_call 83; refine (HA.out _ (ht.below b5)).mono ?_; clear H4 HA; rintro e w6 ⟨rfl, hb6⟩; have k6_0 := k5_0.below hb6; have k6_1 := k5_1.below hb6; have k6_2 := k5_2.below hb6; have b6 := b5.trans (hb6.mono b5.size); have x0a := k6_0.c00; have x0b := k6_0.c01; have x1a := k6_1.c00; have x1b := k6_1.c01; have x2a := k6_2.c00; have x2b := k6_2.c01; have f2 := k6_2.f0))
  have x0a := k6_0.c00
  have x0b := k6_0.c01
  have x1a := k6_1.c00
  have x1b := k6_1.c01
  have x2a := k6_2.c00
  have x2b := k6_2.c01
  have f2 := k6_2.f0
  all_goals go_wp2
  have r5 := k6_2.put (.string lo) (.string hi)
  refine bodyPost_ret_by (v := .agg #[.string lo, .string hi]) (by simp [results, Tryz.f84, go_sem, r5.c00, r5.c01]) rfl ⟨rfl, below_put2 b6 _ _ (by omega)⟩

set_option maxRecDepth 100000 in
set_option maxHeartbeats 8000000 in
theorem swhole_in (k : Nat) (n : Int) (w : World) (hk : k ≤ 150) (hn : n.natAbs ≤ 1000000000000000000) (h1 : (n * ((10 ^ k : Nat) : Int)).natAbs < big) (ht : TabOf w) :
    Calls Tryz.prog 41 #[SV k, .int .i64 n] w fun e w' => e = .returned (.agg #[.string (str (n * ((10 ^ k : Nat) : Int))), .string (str (n * ((10 ^ k : Nat) : Int)))]) ∧ Below w.heap.size w w' := by
  have HN := fun W h => fromInt_in n W hn h
  have HM := fun W h => smul_in n ((10 ^ k : Nat) : Int) W (small_big hn) (ten_big hk) h1 h
  unfold StrPost at HN HM
  unfold SV
  generalize str (n * ((10 ^ k : Nat) : Int)) = m at *
  generalize str ((10 ^ k : Nat) : Int) = one at *
  generalize str n = n' at *
  have HN := Lib.hid HN
  have HM := Lib.hid HM
  obtain ⟨W0, hW0, k0_0, k0_1, b0⟩ := boxes2 w 59 61 (.int .i64 (k : Int)) (.string one) (.string ⟨#[]⟩) (.string ⟨#[]⟩)
  subst hW0
  go_enter Tryz.func41, Tryz.ntmps41
  go_wp2
  have k0_0d := k0_0.drew
  have k0_1d := k0_1.drew
  have b0d := b0.drew
  go_region_held3 (fun W => W.cell? ⟨w.heap.size, 0, none⟩ = some (.int .i64 (k : Int)) ∧ W.cell? ⟨w.heap.size, 1, none⟩ = some (.string one))
    (first | with_reducible exact ⟨k0_0d.c00, k0_0d.c01⟩ | with_reducible exact ⟨k1_0.c00, k1_0.c01⟩ | with_reducible exact ⟨k2_0.c00, k2_0.c01⟩ | exact ⟨cell_put2 k2_0.c00 (by omega) _ _, cell_put2 k2_0.c01 (by omega) _ _⟩) (first
    | (have HA := HN; go_at_call 81; refine (HA.out (World.drew _) (ht.below b0d)).mono ?_; clear HN HA; rintro e w1 ⟨rfl, hb1⟩; have k1_0 := k0_0d.below hb1; have k1_1 := k0_1d.below hb1; have b1 := b0d.trans (hb1.mono b0d.size); have x0a := k1_0.c00; have x0b := k1_0.c01; have x1a := k1_1.c00; have x1b := k1_1.c01; have f1 := k1_1.f0)
    | (have HA := HM; go_at_call 54; refine (HA.out _ (ht.below b1)).mono ?_; clear HM HA; rintro e w2 ⟨rfl, hb2⟩; have k2_0 := k1_0.below hb2; have k2_1 := k1_1.below hb2; have b2 := b1.trans (hb2.mono b1.size); have x0a := k2_0.c00; have x0b := k2_0.c01; have x1a := k2_1.c00; have x1b := k2_1.c01; have f1 := k2_1.f0))
  have x0a := k2_0.c00
  have x0b := k2_0.c01
  have x1a := k2_1.c00
  have x1b := k2_1.c01
  have f1 := k2_1.f0
  go_wp2
  have r5 := k2_1.put (.string m) (.string m)
  refine bodyPost_ret_by (v := .agg #[.string m, .string m]) (by simp [results, Tryz.f41, go_sem, r5.c00, r5.c01]) rfl ⟨rfl, below_put2 b2 _ _ (by omega)⟩

end Go.Proofs.YtppbhnhmaocdnaaGreatDoor
namespace Go.Proofs.YtppbhnhmaocdnaaGreatDoor
open Go.RowKit Go.Shelf

theorem isRoot_unique {N s t : Nat} (h : IsRoot N s) (k : IsRoot N t) : s = t := by
  rcases Nat.lt_trichotomy s t with c | c | c
  · have : (s + 1) * (s + 1) ≤ t * t := Nat.mul_le_mul c c
    have := h.2; have := k.1; omega
  · exact c
  · have : (t + 1) * (t + 1) ≤ s * s := Nat.mul_le_mul c c
    have := k.2; have := h.1; omega

theorem rootOf_in (N s : Nat) (w : World) (hN : N < big) (hN0 : 0 < N) (hs : IsRoot N s) (ht : TabOf w) :
    Calls Tryz.prog 152 #[.string (str (N : Int))] w fun e w' => e = .returned (.tuple #[.string (str (s : Int)), .int .i64 0]) ∧ Below w.heap.size w w' :=
  (root_in N w hN ht hN0).mono fun e w' ⟨t, h1, h2, h3⟩ => ⟨by rw [isRoot_unique hs h1]; exact h2, h3⟩

set_option maxRecDepth 100000 in
set_option maxHeartbeats 8000000 in
theorem sroot_in (k a b r1 r2 : Nat) (w : World) (hk : k ≤ 150) (ha : a < big) (hb : b < big) (ha0 : 0 < a) (hb0 : 0 < b) (h1 : a * 10 ^ k < big) (h2 : b * 10 ^ k < big) (hr1 : IsRoot (a * 10 ^ k) r1) (hr2 : IsRoot (b * 10 ^ k) r2) (hr3 : r2 + 1 < big) (ht : TabOf w) :
    Calls Tryz.prog 117 #[SV k, .agg #[.string (str (a : Int)), .string (str (b : Int))]] w fun e w' => e = .returned (.agg #[.string (str (r1 : Int)), .string (str ((r2 : Int) + 1))]) ∧ Below w.heap.size w w' := by
  have hp : 0 < 10 ^ k := Nat.pow_pos (by omega)
  have H1 := fun W h => smul_in (a : Int) ((10 ^ k : Nat) : Int) W (by simpa using ha) (ten_big hk) (by rw [← Int.natCast_mul, Int.natAbs_natCast]; exact h1) h
  have H2 := fun W h => smul_in (b : Int) ((10 ^ k : Nat) : Int) W (by simpa using hb) (ten_big hk) (by rw [← Int.natCast_mul, Int.natAbs_natCast]; exact h2) h
  rw [← Int.natCast_mul] at H1 H2
  have R1 := fun W h => rootOf_in (a * 10 ^ k) r1 W h1 (Nat.mul_pos ha0 hp) hr1 h
  have R2 := fun W h => rootOf_in (b * 10 ^ k) r2 W h2 (Nat.mul_pos hb0 hp) hr2 h
  have H3 := fun W h => sadd_in (r2 : Int) 1 W (by simp; omega) one_big (by have : ((r2 : Int) + 1) = ((r2 + 1 : Nat) : Int) := rfl; rw [this, Int.natAbs_natCast]; exact hr3) h
  rw [str_one] at H3
  unfold StrPost at H1 H2 H3
  unfold SV
  generalize str (r1 : Int) = lo at *
  generalize str ((r2 : Int) + 1) = hi at *
  generalize str (r2 : Int) = q at *
  generalize str ((a * 10 ^ k : Nat) : Int) = m1 at *
  generalize str ((b * 10 ^ k : Nat) : Int) = m2 at *
  generalize str ((10 ^ k : Nat) : Int) = one at *
  generalize str (a : Int) = a' at *
  generalize str (b : Int) = b' at *
  have H1 := Lib.hid H1
  have H2 := Lib.hid H2
  have H3 := Lib.hid H3
  have R1 := Lib.hid R1
  have R2 := Lib.hid R2
  clear ha hb ha0 hb0 h1 h2 hr1 hr2 hr3 hp
  obtain ⟨W0, hW0, k0, l0, r0, b0⟩ := boxes3 w 59 61 61 (.int .i64 (k : Int)) (.string one) (.string a') (.string b') (.string ⟨#[]⟩) (.string ⟨#[]⟩)
  subst hW0
  have x0 := k0.c00
  have x1 := k0.c01
  have y0 := l0.c00
  have y1 := l0.c01
  go_enter Tryz.func117, Tryz.ntmps117
  go_wp2_with (first
    | (have HA := H1; go_at_call 54; refine (HA.out _ (ht.below b0)).mono ?_; clear H1 HA; rintro e w1 ⟨rfl, hb1⟩; have k1 := k0.below hb1; have l1 := l0.below hb1; have r1 := r0.below hb1; have b1 := b0.trans (hb1.mono b0.size); have x0 := k1.c00; have x1 := k1.c01; have y0 := l1.c00; have y1 := l1.c01)
    | (have HA := R1; go_at_call 152; refine (HA.out _ (ht.below b1)).mono ?_; clear R1 HA; rintro e w2 ⟨rfl, hb2⟩; have k2 := k1.below hb2; have l2 := l1.below hb2; have r2 := r1.below hb2; have b2 := b1.trans (hb2.mono b1.size); have x0 := k2.c00; have x1 := k2.c01; have y0 := l2.c00; have y1 := l2.c01)
    | (have HA := H2; go_at_call 54; refine (HA.out _ (ht.below b2)).mono ?_; clear H2 HA; rintro e w3 ⟨rfl, hb3⟩; have k3 := k2.below hb3; have l3 := l2.below hb3; have r3 := r2.below hb3; have b3 := b2.trans (hb3.mono b2.size); have x0 := k3.c00; have x1 := k3.c01; have y0 := l3.c00; have y1 := l3.c01)
    | (have HA := R2; go_at_call 152; refine (HA.out _ (ht.below b3)).mono ?_; clear R2 HA; rintro e w4 ⟨rfl, hb4⟩; have r4 := r3.below hb4; have b4 := b3.trans (hb4.mono b3.size))
    | (have HA := H3; go_at_call 56; refine (HA.out _ (ht.below b4)).mono ?_; clear H3 HA; rintro e w5 ⟨rfl, hb5⟩; have r5 := r4.below hb5; have b5 := b4.trans (hb5.mono b4.size); have e0 := r5.c00; have e1 := r5.c01; have e2 := r5.f0))
  have r6 := r5.put (.string lo) (.string hi)
  refine bodyPost_ret_by (v := .agg #[.string lo, .string hi]) (by simp [results, Tryz.f117, go_sem, r6.c00, r6.c01]) rfl ⟨rfl, below_put2 b5 _ _ (by omega)⟩

def piAll : Nat := 314159265358979323846264338327950288419716939937510582097494459230781640628620899
def piN (k : Nat) : Nat := piAll / 10 ^ (80 - k)
def piDigits : List UInt8 := [51, 49, 52, 49, 53, 57, 50, 54, 53, 51, 53, 56, 57, 55, 57, 51, 50, 51, 56, 52, 54, 50, 54, 52, 51, 51, 56, 51, 50, 55, 57, 53, 48, 50, 56, 56, 52, 49, 57, 55, 49, 54, 57, 51, 57, 57, 51, 55, 53, 49, 48, 53, 56, 50, 48, 57, 55, 52, 57, 52, 52, 53, 57, 50, 51, 48, 55, 56, 49, 54, 52, 48, 54, 50, 56, 54, 50, 48, 56, 57, 57]

set_option maxRecDepth 100000 in
theorem pi_digits (k : Nat) (hk : k ≤ 80) : Lib.decDigits (piN k) = piDigits.take (k + 1) := by
  have h : ∀ k, k < 81 → Lib.decDigits (piN k) = piDigits.take (k + 1) := by
    decide +kernel
  exact h k (by omega)
theorem pi_str (k : Nat) (hk : k ≤ 80) : str (piN k : Int) = ⟨(piDigits.take (k + 1)).toArray⟩ := by rw [str, itoa_nat, pi_digits k hk]

theorem piN_big (k : Nat) (hk : k ≤ 80) : piN k + 1 < big := by
  have h1 : piN k ≤ piAll := Nat.div_le_self _ _
  have h2 : piAll + 1 < 10 ^ 81 := by decide +kernel
  have h3 : 10 ^ 81 ≤ big := by rw [big_eq]; exact Nat.pow_le_pow_right (by omega) (by omega)
  omega

set_option maxRecDepth 100000 in
set_option maxHeartbeats 1000000 in
theorem spi_in (k : Nat) (w : World) (hk : k ≤ 80) (ht : TabOf w) :
    Calls Tryz.prog 118 #[SV k] w fun e w' => e = .returned (.agg #[.string (str (piN k : Int)), .string (str ((piN k : Int) + 1))]) ∧ Below w.heap.size w w' := by
  have hb := piN_big k hk
  have H3 := fun W h => sadd_in (piN k : Int) 1 W (by simp; omega) one_big (by have : ((piN k : Int) + 1) = ((piN k + 1 : Nat) : Int) := rfl; rw [this, Int.natAbs_natCast]; exact hb) h
  rw [str_one] at H3
  unfold StrPost at H3
  have HS : ((⟨#[51, 49, 52, 49, 53, 57, 50, 54, 53, 51, 53, 56, 57, 55, 57, 51, 50, 51, 56, 52, 54, 50, 54, 52, 51, 51, 56, 51, 50, 55, 57, 53, 48, 50, 56, 56, 52, 49, 57, 55, 49, 54, 57, 51, 57, 57, 51, 55, 53, 49, 48, 53, 56, 50, 48, 57, 55, 52, 57, 52, 52, 53, 57, 50, 51, 48, 55, 56, 49, 54, 52, 48, 54, 50, 56, 54, 50, 48, 56, 57, 57]⟩ : ByteArray).extract 0 (k + 1)) = str (piN k : Int) := by
    rw [pi_str k hk]
    apply ByteArray.ext
    rw [ByteArray.data_extract]
    apply Array.toList_inj.1
    rw [Array.toList_extract]
    rfl
  unfold SV
  generalize str ((10 ^ k : Nat) : Int) = one at *
  generalize str ((piN k : Int) + 1) = hi at *
  generalize str (piN k : Int) = lo at *
  have H3 := Lib.hid H3
  have HS := Lib.hid HS
  obtain ⟨W0, hW0, k0, r0, b0⟩ := boxes2 w 59 61 (.int .i64 (k : Int)) (.string one) (.string ⟨#[]⟩) (.string ⟨#[]⟩)
  subst hW0
  have x0 := k0.c00
  have x1 := k0.c01
  clear hb
  go_enter Tryz.func118, Tryz.ntmps118
  go_wp2_with (go_at_call 56; refine (H3.out _ (ht.below b0)).mono ?_; rintro e w1 ⟨rfl, hb1⟩; have r1 := r0.below hb1; have b1 := b0.trans (hb1.mono b0.size); have e0 := r1.c00; have e1 := r1.c01; have e2 := r1.f0)
  have r6 := r1.put (.string lo) (.string hi)
  refine bodyPost_ret_by (v := .agg #[.string lo, .string hi]) (by simp [results, Tryz.f118, go_sem, r6.c00, r6.c01]) rfl ⟨rfl, below_put2 b1 _ _ (by omega)⟩
end Go.Proofs.YtppbhnhmaocdnaaGreatDoor
namespace Go.Proofs.YtppbhnhmaocdnaaGreatDoor
open Go.RowKit Go.Shelf

attribute [local go_sem] Oper.semAt_some

def NV (t : Int × Int) : Value := .agg #[.string (str t.1), .string (str t.2)]
def NBox (W : World) (b : Nat) (T : TypeId) (t : Int × Int) : Prop := W.heap[b]? = some (.cells #[.string (str t.1), .string (str t.2)] T)

structure KpW (n₀ lo hi : Nat) (A B : World) : Prop where
  below : Below n₀ A B
  cells : ∀ (k : Nat) (o : Obj), (k < lo ∨ hi ≤ k) → A.heap[k]? = some o → o.isCells = true → B.heap[k]? = some o

theorem KpW.trans {n₀ lo hi : Nat} {A B C : World} (h : KpW n₀ lo hi A B) (k : KpW n₀ lo hi B C) : KpW n₀ lo hi A C :=
  ⟨h.below.trans k.below, fun i o hi h1 h2 => k.cells i o hi (h.cells i o hi h1 h2) h2⟩
theorem KpW.putObj {n₀ lo hi : Nat} {w : World} (hn : n₀ ≤ w.heap.size) (W : World) (l : Nat) (o o' : Obj) (hl : w.heap.size ≤ l) (h : W.heap[l]? = some o) (h1 : o.isCells = false) (h2 : o.isWalk = false) : KpW n₀ lo hi W (W.putObj l o') :=
  ⟨belowK_b hn W l o o' hl h h1 h2, fun k p _ hk hp => by
    rw [World.putObj_heap_other]
    · exact hk
    · intro e; subst e; rw [h] at hk; cases hk; rw [h1] at hp; cases hp⟩
theorem KpW.of {n₀ lo hi : Nat} {A B : World} (h : Below A.heap.size A B) (hn : n₀ ≤ A.heap.size) : KpW n₀ lo hi A B :=
  ⟨h.mono hn, fun k _ _ hk _ => (h.block k (Array.getElem?_eq_some_iff.1 hk).1).trans hk⟩

theorem rc_of_heap {W : World} {b : Nat} {T : TypeId} {x y : Value} (h : W.heap[b]? = some (.cells #[x, y] T)) : RC b W x y := by
  refine ⟨?_, ?_, fun j => ?_⟩
  · simp only [World.cell?, h]; rfl
  · simp only [World.cell?, h]; rfl
  · simp [World.frozen?, h]

structure TermI (t : Nat → Int × Int) (T U : TypeId) (b2 : Nat) (fv : Value) (w0 W0 : World) (J : Nat → World → Prop) (k D : Nat) (W : World) : Prop where
  box : NBox W D T (t k)
  dge : W0.heap.size ≤ D
  j : J k W
  b : Below w0.heap.size w0 W
  sz : W0.heap.size ≤ W.heap.size
  nx : W.heap[b2]? = some (.cells #[fv] U)

set_option maxRecDepth 100000 in
set_option maxHeartbeats 2000000 in
theorem terms1_in (n : Nat) (hn : 1 ≤ n) (l g : Nat) (caps : Array Value) (t : Nat → Int × Int) (M lo hi b1 b2 : Nat) (J Jx : Nat → World → Prop) (W w0 : World)
    (eg : ∀ args w, (callFunc g args).run Tryz.prog w = .ok (.enter g args) w)
    (hB : Below w0.heap.size w0 W) (hlo : w0.heap.size ≤ lo) (hhi : hi ≤ W.heap.size)
    (hb1 : b1 < w0.heap.size) (hb2 : b2 < w0.heap.size) (c1 : NBox w0 b1 61 (t 0)) (c2 : w0.heap[b2]? = some (.cells #[.func (.func g) #[] caps] 109))
    (hnext : ∀ i, i < M → ∀ A, Below w0.heap.size w0 A → Calls Tryz.prog g (#[NV (t i), .int .i64 ((i : Int) + 1)] ++ caps) A fun e A' => e = .returned (NV (t (i + 1))) ∧ Below A.heap.size A A')
    (hM : M ≤ 100000) (hJM : ∀ k A, J k A → k ≤ M) (hJb : ∀ k A B, J k A → Below W.heap.size A B → J k B)
    (hY : ∀ k A, J k A → YieldAt Fence.wide (n - 1) Tryz.prog l #[NV (t k)] A fun e B => (e = .returned (.bool true) ∧ J (k + 1) B ∧ KpW w0.heap.size lo hi A B) ∨ (e = .returned (.bool false) ∧ Jx k B))
    (h0 : J 0 W) :
    CallsIn Fence.wide n Tryz.prog 128 #[.func (.yield l) #[] #[], .pointer (some ⟨b1, 0, none⟩), .pointer (some ⟨b2, 0, none⟩)] W fun e B => (∃ v, e = .returned v) ∧ ∃ k, Jx k B := by
  have hfn : ∀ k, Fence.wide.fn k := fun _ => trivial
  refine callsIn_of_wp Tryz.func128 rfl trivial ?_ rfl
  simp only [Tryz.ntmps128, List.size_toArray, List.length_cons, List.length_nil, Nat.reduceAdd, Nat.reduceSub, Array.replicate_succ, Array.replicate_zero, List.push_toArray, List.append_toArray, List.nil_append, List.cons_append]
  have x1 := rc_of_heap ((hB.block _ hb1).trans c1)
  have y0 := x1.c00
  have y1 := x1.c01
  have x2 := x1.below (belowNew W (.cells #[.string ⟨#[]⟩, .string ⟨#[]⟩] 61))
  have y2 := x2.c00
  have y3 := x2.c01
  gi_wp2
  gi_region
  have hbA : Below W.heap.size W (W.alloc (.cells #[.string (str (t 0).1), .string (str (t 0).2)] 61)).drew := (belowNew W _).drew
  have hW0 : w0.heap.size ≤ W.heap.size := hB.size
  have hst : ∃ W2, W2 = (W.alloc (.cells #[.string (str (t 0).1), .string (str (t 0).2)] 61)).drew := ⟨_, rfl⟩
  have hbox0 : (W.alloc (.cells #[.string (str (t 0).1), .string (str (t 0).2)] 61)).drew.heap[W.heap.size]? = some (.cells #[.string (str (t 0).1), .string (str (t 0).2)] 61) := World.alloc_heap_new W _
  have hnx0 : W.heap[b2]? = some (.cells #[.func (.func g) #[] caps] 109) := (hB.block _ hb2).trans c2
  have hnx1 := (hbA.block b2 (by omega)).trans hnx0
  have hj0 := hJb 0 _ _ h0 hbA
  have hB1 := hB.trans (hbA.mono hW0)
  clear hst y0 y1 y2 y3 x1 x2
  gi_wp2
  gi_loopw [4, 5] (fun i p wr => ∃ k D : Nat, i = .int .i64 ((k : Int) + 1) ∧ p = .pointer (some ⟨D, 0, none⟩) ∧ TermI t 61 109 b2 (.func (.func g) #[] caps) w0 W J k D wr)
    (fun i _ _ => (M + 1 - (intOf i).toNat))
  case atStart => exact ⟨0, W.heap.size, rfl, rfl, ⟨hbox0, Nat.le_refl _, hj0, hB1, hbA.size, hnx1⟩⟩
  case round =>
    obtain ⟨k, D, rfl, rfl, hT⟩ := hrel
    have hkM := hJM k wr hT.j
    obtain ⟨fn, tmps, assign, body, hy, hR⟩ := hY k wr hT.j
    unfold NV at hy
    have x := rc_of_heap hT.box
    have y0 := x.c00
    have y1 := x.c01
    have HT := Lib.hid hT
    have hdge := hT.dge
    have HN := Lib.hid hnext
    clear hnext hT c1 c2 hbox0 hnx0 hnx1 hj0
    gi_wp2
    refine hR.mono ?_
    rintro e W3 (⟨rfl, hJ3, hk3⟩ | ⟨rfl, hJx3⟩)
    · have hlt := hJM _ _ hJ3
      have hbox3 := hk3.cells D _ (.inr (by omega)) HT.out.box rfl
      have hnx3 := hk3.cells b2 _ (.inl (by omega)) HT.out.nx rfl
      have hb3 := HT.out.b.trans hk3.below
      have HC := Lib.hid (HN.out k (by omega) W3 hb3)
      unfold NV at HC
      have x3 := rc_of_heap hbox3
      have z0 := x3.c00
      have z1 := x3.c01
      have z2 : W3.cell? ⟨b2, 0, none⟩ = some (.func (.func g) #[] caps) := cell_of_one hnx3
      have HB3 := Lib.hid hbox3
      clear hbox3
      gi_wp2_with (refine (callsIn_wide.2 (show Calls _ g _ _ _ from HC.out)).mono ?_; rintro e W4 ⟨rfl, hb4⟩; have x4 := x3.below hb4; have z3 := x4.c00; have z4 := x4.c01; have z5 := x4.f0)
      have hs3 : W.heap.size ≤ W3.heap.size := Nat.le_trans HT.out.sz hk3.below.size
      have hs4 := hb4.size
      have bW := (((hb4.mono hs3).setCell (p := ⟨D, 0, none⟩) hdge (.string (str (t (k + 1)).1))).setCell (p := ⟨D, 1, none⟩) hdge (.string (str (t (k + 1)).2))).alloc (by rw [sizeSet, sizeSet]; omega) (.cells #[.string (str (t (k + 1)).1), .string (str (t (k + 1)).2)] 61)
      have hbx := World.alloc_heap_new ((W4.setCell ⟨D, 0, none⟩ (.string (str (t (k + 1)).1))).setCell ⟨D, 1, none⟩ (.string (str (t (k + 1)).2))) (.cells #[.string (str (t (k + 1)).1), .string (str (t (k + 1)).2)] 61)
      rw [sizeSet, sizeSet] at hbx
      refine ⟨⟨k + 1, W4.heap.size, by push_cast; rfl, rfl, ⟨hbx, by omega, hJb _ _ _ hJ3 bW, hb3.trans (bW.mono hW0), Nat.le_trans hs3 bW.size, (bW.block b2 (by omega)).trans hnx3⟩⟩, ?_⟩
      simp only [intOf]
      omega
    · gi_wp2
      go_end0
      exact ⟨⟨_, rfl⟩, k, hJx3⟩

theorem terms_endless (n : Nat) (hn : 1 ≤ n) (g : Nat) (caps : Array Value) (t : Nat → Int × Int) (M lo hi b1 b2 : Nat) (w0 w : World) (I : Nat → World → Prop)
    (eg : ∀ args w, (callFunc g args).run Tryz.prog w = .ok (.enter g args) w)
    (hB : Below w0.heap.size w0 w) (hlo : w0.heap.size ≤ lo) (hhi : hi ≤ w.heap.size)
    (hb1 : b1 < w0.heap.size) (hb2 : b2 < w0.heap.size) (c1 : NBox w0 b1 61 (t 0)) (c2 : w0.heap[b2]? = some (.cells #[.func (.func g) #[] caps] 109))
    (hnext : ∀ i, i < M → ∀ A, Below w0.heap.size w0 A → Calls Tryz.prog g (#[NV (t i), .int .i64 ((i : Int) + 1)] ++ caps) A fun e A' => e = .returned (NV (t (i + 1))) ∧ Below A.heap.size A A')
    (hM : M ≤ 100000) (hIM : ∀ k A, I k A → k ≤ M) :
    Endless n Tryz.prog 128 #[.pointer (some ⟨b1, 0, none⟩), .pointer (some ⟨b2, 0, none⟩)] (fun k => #[NV (t k)]) (KpW w0.heap.size lo hi) I w := by
  intro l J Jx W hW hJb hJI hY h0
  exact terms1_in n hn l g caps t M lo hi b1 b2 J Jx W w0 eg (hB.trans (hW.mono hB.size)) hlo (Nat.le_trans hhi hW.size) hb1 hb2 c1 c2 hnext hM (fun k A h => hIM k A (hJI k A h)) hJb hY h0

theorem ent_terms : ∀ args w, (callFunc 128 args).run Tryz.prog w = .ok (.enter 128 args) w := enters_of Tryz.func128 (by kernel_rfl) rfl

set_option maxRecDepth 100000 in
set_option maxHeartbeats 1000000 in
theorem terms_in (f : Value) (t0 : Int × Int) (hf : ∃ fn a b, f = .func fn a b) (w : World) :
    Calls Tryz.prog 86 #[NV t0, f] w fun e w' => e = .returned (.func (.func 128) #[] #[.pointer (some ⟨w.heap.size, 0, none⟩), .pointer (some ⟨w.heap.size + 1, 0, none⟩)]) ∧
      Below w.heap.size w w' ∧ NBox w' w.heap.size 61 t0 ∧ w'.heap[w.heap.size + 1]? = some (.cells #[f] 109) ∧ w'.heap.size = w.heap.size + 2 := by
  obtain ⟨fn, a, b, rfl⟩ := hf
  unfold NV NBox
  generalize str t0.1 = s1 at *
  generalize str t0.2 = s2 at *
  go_enter Tryz.func86, Tryz.ntmps86
  go_wp2
  go_ret
  have n1 := belowNew w (.cells #[.string s1, .string s2] 61)
  have n2 := belowNew (w.alloc (.cells #[.string s1, .string s2] 61)) (.cells #[.func fn a b] 109)
  have h1 := World.alloc_heap_new w (.cells #[.string s1, .string s2] 61)
  have h2 := World.alloc_heap_new (w.alloc (.cells #[.string s1, .string s2] 61)) (.cells #[.func fn a b] 109)
  rw [sizeNew] at h2
  exact ⟨rfl, n1.trans (n2.mono n1.size), (n2.block _ (by rw [sizeNew]; omega)).trans h1, h2, by rw [sizeNew, sizeNew]⟩
end Go.Proofs.YtppbhnhmaocdnaaGreatDoor
namespace Go.Proofs.YtppbhnhmaocdnaaGreatDoor
open Go.RowKit Go.Shelf

def stopB (b : Bool) (tm last : Int × Int) : Bool := b && decide (tm.2 ≤ 2) && decide (tm.2 * 2 ≤ last.2 + 2)

theorem two_big : (2 : Int).natAbs < big := by
  have h1 : 2 < big := by rw [big_eq]; exact Nat.lt_of_lt_of_le (show 2 < 10 ^ 1 by decide) (Nat.pow_le_pow_right (by omega) (by omega))
  simpa using h1
theorem four_big : (4 : Int).natAbs < big := by
  have h1 : 4 < big := by rw [big_eq]; exact Nat.lt_of_lt_of_le (show 4 < 10 ^ 1 by decide) (Nat.pow_le_pow_right (by omega) (by omega))
  simpa using h1
theorem str_dig {n : Nat} (h : n < 10) : str (n : Int) = ⟨#[UInt8.ofNat (48 + n)]⟩ := by
  rw [str, itoa_nat, dec_small h]
theorem str_two : str 2 = ⟨#[50]⟩ := str_dig (n := 2) (by omega)
theorem str_four : str 4 = ⟨#[52]⟩ := str_dig (n := 4) (by omega)
theorem cmpI_le (x y : Int) : decide (cmpI x y ≤ 0) = decide (x ≤ y) := by
  rcases cmpI_cases x y with ⟨h, e⟩ | ⟨h, e⟩ | ⟨h, e⟩ <;> rw [e] <;> simp <;> omega

set_option maxRecDepth 100000 in
set_option maxHeartbeats 4000000 in
theorem isLast_in (b : Bool) (tm last : Int × Int) (pb pl : Nat) (w : World) (hb : w.cell? ⟨pb, 0, none⟩ = some (.bool b)) (hlb : RC pl w (.string (str last.1)) (.string (str last.2)))
    (h1 : tm.2.natAbs < big) (h2 : (tm.2 * 2).natAbs < big) (h3 : last.2.natAbs < big) (h4 : (last.2 + 2).natAbs < big) (ht : TabOf w) :
    Calls Tryz.prog 127 #[NV tm, .pointer (some ⟨pb, 0, none⟩), .pointer (some ⟨pl, 0, none⟩)] w fun e w' => e = .returned (.bool (stopB b tm last)) ∧ Below w.heap.size w w' := by
  have HC1 := fun W => cmp_in tm.2 2 W h1 two_big
  have HM := fun W h => smul_in tm.2 2 W h1 two_big h2 h
  have HA := fun W h => sadd_in last.2 2 W h3 two_big h4 h
  have HC2 := fun W => cmp_in (tm.2 * 2) (last.2 + 2) W h2 h4
  have d1 := cmpI_le tm.2 2
  have d2 := cmpI_le (tm.2 * 2) (last.2 + 2)
  unfold StrPost at HM HA
  rw [str_two] at HC1 HM HA
  unfold NV stopB
  rw [← d1, ← d2]
  generalize cmpI tm.2 2 = ca at *
  generalize cmpI (tm.2 * 2) (last.2 + 2) = cb at *
  generalize str (tm.2 * 2) = m at *
  generalize str (last.2 + 2) = r at *
  generalize str tm.1 = s1 at *
  generalize str tm.2 = s2 at *
  generalize str last.1 = l1 at *
  generalize str last.2 = l2 at *
  have bn := belowNew w (.cells #[.string s1, .string s2] 61)
  have k0 := (RC.new w 61 (.string s1) (.string s2)).drew
  have q0 := (hlb.below bn).drew
  have p0 : (w.alloc (.cells #[.string s1, .string s2] 61)).drew.cell? ⟨pb, 0, none⟩ = some (.bool b) := Below.get bn hb
  have b0 := bn.drew
  clear d1 d2 h1 h2 h3 h4
  have HC1 := Lib.hid HC1
  have HM := Lib.hid HM
  have HA := Lib.hid HA
  have HC2 := Lib.hid HC2
  cases b
  · rw [Bool.false_and, Bool.false_and]
    go_enter Tryz.func127, Tryz.ntmps127
    go_wp2
    have p0' := Below.get bn hb
    go_quiet (fail)
    go_wp2
    go_ret
    exact ⟨rfl, Below.drewN' bn _⟩
  · rw [Bool.true_and]
    by_cases ha : decide (ca ≤ 0) = true
    · rw [ha, Bool.true_and]
      go_enter Tryz.func127, Tryz.ntmps127
      go_wp2
      go_region_held3 (fun W => W.cell? ⟨pb, 0, none⟩ = some (.bool true) ∧ W.cell? ⟨w.heap.size, 1, none⟩ = some (.string s2) ∧ W.cell? ⟨pl, 1, none⟩ = some (.string l2))
        (first | with_reducible exact ⟨p0, k0.c01, q0.c01⟩ | with_reducible exact ⟨p1, k1.c01, q1.c01⟩ | with_reducible exact ⟨p2, k2.c01, q2.c01⟩ | with_reducible exact ⟨p3, k3.c01, q3.c01⟩ | with_reducible exact ⟨p4, k4.c01, q4.c01⟩) (first
        | (have HX := HC1; go_at_call 52; refine (HX.out (World.drew _)).mono ?_; clear HC1 HX; rintro e w1 ⟨rfl, hb1⟩; have p1 := Below.get hb1 p0; have k1 := k0.below hb1; have q1 := q0.below hb1; have b1 := b0.trans (hb1.mono b0.size))
        | (have HX := HM; go_at_call 54; refine (HX.out _ (ht.below b1)).mono ?_; clear HM HX; rintro e w2 ⟨rfl, hb2⟩; have p2 := Below.get hb2 p1; have k2 := k1.below hb2; have q2 := q1.below hb2; have b2 := b1.trans (hb2.mono b1.size))
        | (have HX := HA; go_at_call 56; refine (HX.out _ (ht.below b2)).mono ?_; clear HA HX; rintro e w3 ⟨rfl, hb3⟩; have p3 := Below.get hb3 p2; have k3 := k2.below hb3; have q3 := q2.below hb3; have b3 := b2.trans (hb3.mono b2.size))
        | (go_at_call 52; refine (HC2.out _).mono ?_; rintro e w4 ⟨rfl, hb4⟩; have p4 := Below.get hb4 p3; have k4 := k3.below hb4; have q4 := q3.below hb4; have b4 := b3.trans (hb4.mono b3.size)))
      all_goals go_wp2
      all_goals go_ret
      all_goals exact ⟨rfl, b4⟩
    · have ha : decide (ca ≤ 0) = false := by simpa using ha
      rw [ha, Bool.false_and]
      go_enter Tryz.func127, Tryz.ntmps127
      go_wp2
      refine wp_region_held_drew (S := fun W => W.cell? ⟨pb, 0, none⟩ = some (.bool true) ∧ W.cell? ⟨w.heap.size, 1, none⟩ = some (.string s2) ∧ W.cell? ⟨pl, 1, none⟩ = some (.string l2)) (by kernel_rfl) ⟨p0, k0.c01, q0.c01⟩ (fun hHeld => ?_)
      refine wpAnyH_take (i := 0) (oi := ⟨some 5, _, _, _, _, _⟩) (v := ?_) rfl (by kernel_rfl) (by kernel_rfl) (by kernel_rfl) (fun _ _ _ h => h) (Or.inl ⟨by rfl, ?hy0⟩) (by assumption) ?rest0
      case hy0 => (intro w hSw; (try dsimp only at hSw); go_simp; (try with_reducible rfl))
      (try simp only [Act.put, qb21a, qb21z, qb21s])
      refine wpAnyH_take (i := 1) (oi := ⟨some 6, _, _, _, _, _⟩) (v := ?_) rfl (by kernel_rfl) (by kernel_rfl) (by kernel_rfl) (fun _ _ _ h => h) (Or.inl ⟨by rfl, ?hy1⟩) (by assumption) ?rest1
      case hy1 => (intro w hSw; (try dsimp only at hSw); go_simp; (try with_reducible rfl))
      (try simp only [Act.put, qb21a, qb21z, qb21s])
      refine wpAnyH_take (i := 2) (oi := ⟨some 7, _, _, _, _, _⟩) (v := ?_) rfl (by kernel_rfl) (by kernel_rfl) (by kernel_rfl) (fun _ _ _ h => h) (Or.inl ⟨by rfl, ?hy2⟩) (by assumption) ?rest2
      case hy2 => (intro w hSw; (try dsimp only at hSw); go_simp; (try with_reducible rfl))
      (try simp only [Act.put, qb21a, qb21z, qb21s])
      refine wpAnyH_take (i := 3) (oi := ⟨some 8, _, _, _, _, _⟩) (v := ?_) rfl (by kernel_rfl) (by kernel_rfl) (by kernel_rfl) (fun _ _ _ h => h) (Or.inl ⟨by rfl, ?hy3⟩) (by assumption) ?rest3
      case hy3 => (intro w hSw; (try dsimp only at hSw); go_simp; (try with_reducible rfl))
      (try simp only [Act.put, qb21a, qb21z, qb21s])
      refine wpAnyH_ready (rs := [4]) (by kernel_rfl) (by simp) ?_
      refine AllReadyH.cons (o := ⟨some 9, _, _, _, _, _⟩) rfl (fun K hK => ?_) AllReadyH.nil
      go_simp
      refine (HC1.out _).mono ?_
      rintro e w1 ⟨rfl, hb1⟩
      have p1 := Below.get hb1 p0
      have k1 := k0.below hb1
      have q1 := q0.below hb1
      have b1 := b0.trans (hb1.mono b0.size)
      refine hK.out _ _ ⟨p1, k1.c01, q1.c01⟩ (fun hHeld => ?_)
      clear hK K
      (try simp only [Act.put, qb21a, qb21z, qb21s])
      refine wpAnyH_take (i := 5) (oi := ⟨some 10, _, _, _, _, _⟩) (v := ?_) rfl (by kernel_rfl) (by kernel_rfl) (by kernel_rfl) (fun _ _ _ h => h) (Or.inl ⟨by rfl, ?hy5⟩) (by assumption) ?rest5
      case hy5 => (intro w hSw; (try dsimp only at hSw); go_simp; (try with_reducible rfl))
      (try simp only [Act.put, qb21a, qb21z, qb21s])
      refine wpAnyH_take (i := 6) (oi := ⟨some 11, _, _, _, _, _⟩) (v := ?_) rfl (by kernel_rfl) (by kernel_rfl) (by kernel_rfl) (fun _ _ _ h => h) (Or.inl ⟨by rfl, ?hy6⟩) (by assumption) ?rest6
      case hy6 => (intro w hSw; (try dsimp only at hSw); go_simp; (try with_reducible rfl))
      (try simp only [Act.put, qb21a, qb21z, qb21s])
      refine wpAnyH_take (i := 7) (oi := ⟨some 12, _, _, _, _, _⟩) (v := ?_) rfl (by kernel_rfl) (by kernel_rfl) (by kernel_rfl) (fun _ _ _ h => h) (Or.inl ⟨by rfl, ?hy7⟩) (by assumption) ?rest7
      case hy7 => (intro w hSw; (try dsimp only at hSw); go_simp; (try with_reducible rfl))
      (try simp only [Act.put, qb21a, qb21z, qb21s])
      refine wpAnyH_take (i := 8) (oi := ⟨some 13, _, _, _, _, _⟩) (v := undef) rfl (by kernel_rfl) (by kernel_rfl) (by kernel_rfl) (fun _ _ _ h => h) (Or.inr ⟨by rfl, rfl⟩) (by assumption) ?_
      (try simp only [Act.put, qb21a, qb21z, qb21s])
      refine wpAnyH_take (i := 9) (oi := ⟨some 14, _, _, _, _, _⟩) (v := undef) rfl (by kernel_rfl) (by kernel_rfl) (by kernel_rfl) (fun _ _ _ h => h) (Or.inr ⟨by rfl, rfl⟩) (by assumption) ?_
      (try simp only [Act.put, qb21a, qb21z, qb21s])
      refine wpAnyH_take (i := 10) (oi := ⟨some 15, _, _, _, _, _⟩) (v := undef) rfl (by kernel_rfl) (by kernel_rfl) (by kernel_rfl) (fun _ _ _ h => h) (Or.inr ⟨by rfl, rfl⟩) (by assumption) ?_
      (try simp only [Act.put, qb21a, qb21z, qb21s])
      refine wpAnyH_take (i := 11) (oi := ⟨some 16, _, _, _, _, _⟩) (v := undef) rfl (by kernel_rfl) (by kernel_rfl) (by kernel_rfl) (fun _ _ _ h => h) (Or.inr ⟨by rfl, rfl⟩) (by assumption) ?_
      (try simp only [Act.put, qb21a, qb21z, qb21s])
      refine wpAnyH_take (i := 12) (oi := ⟨some 17, _, _, _, _, _⟩) (v := undef) rfl (by kernel_rfl) (by kernel_rfl) (by kernel_rfl) (fun _ _ _ h => h) (Or.inr ⟨by rfl, rfl⟩) (by assumption) ?_
      (try simp only [Act.put, qb21a, qb21z, qb21s])
      refine wpAnyH_take (i := 13) (oi := ⟨some 18, _, _, _, _, _⟩) (v := undef) rfl (by kernel_rfl) (by kernel_rfl) (by kernel_rfl) (fun _ _ _ h => h) (Or.inr ⟨by rfl, rfl⟩) (by assumption) ?_
      (try simp only [Act.put, qb21a, qb21z, qb21s])
      refine wpAnyH_take (i := 14) (oi := ⟨some 19, _, _, _, _, _⟩) (v := undef) rfl (by kernel_rfl) (by kernel_rfl) (by kernel_rfl) (fun _ _ _ h => h) (Or.inr ⟨by rfl, rfl⟩) (by assumption) ?_
      (try simp only [Act.put, qb21a, qb21z, qb21s])
      refine wpAnyH_take (i := 15) (oi := ⟨some 20, _, _, _, _, _⟩) (v := undef) rfl (by kernel_rfl) (by kernel_rfl) (by kernel_rfl) (fun _ _ _ h => h) (Or.inr ⟨by rfl, rfl⟩) (by assumption) ?_
      (try simp only [Act.put, qb21a, qb21z, qb21s])
      refine wpAnyH_take (i := 16) (oi := ⟨some 21, _, _, _, _, _⟩) (v := ?_) rfl (by kernel_rfl) (by kernel_rfl) (by kernel_rfl) (fun _ _ _ h => h) (Or.inl ⟨by rfl, ?hy16⟩) (by assumption) ?rest16
      case hy16 => (intro w hSw; (try dsimp only at hSw); go_simp; (try with_reducible rfl))
      (try simp only [Act.put, qb21a, qb21z, qb21s])
      refine wpAnyH_take (i := 17) (oi := ⟨some 4, _, _, _, _, _⟩) (v := ?_) rfl (by kernel_rfl) (by kernel_rfl) (by kernel_rfl) (fun _ _ _ h => h) (Or.inl ⟨by rfl, ?hy17⟩) (by assumption) ?rest17
      case hy17 => (intro w hSw; (try dsimp only at hSw); go_simp; (try with_reducible rfl))
      (try simp only [Act.put, qb21a, qb21z, qb21s])
      refine wpAnyH_done (by kernel_rfl) ?_ _
      go_wp2
      go_ret
      exact ⟨rfl, b1⟩
end Go.Proofs.YtppbhnhmaocdnaaGreatDoor
