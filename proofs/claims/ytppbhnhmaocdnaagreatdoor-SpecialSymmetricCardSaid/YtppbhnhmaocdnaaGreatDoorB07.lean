/- Which strings are integers: isValid, Valid. -/
import Derived.Test.YtppbhnhmaocdnaaGreatDoorShelf
import Derived.Test.YtppbhnhmaocdnaaGreatDoorB06
import Derived.Test.YtppbhnhmaocdnaaGreatDoorB01
import Derived.Shelf.Strings.SlTrimAscii
import Derived.Outline
set_option linter.unusedVariables false
set_option linter.unusedSimpArgs false
namespace Go.Proofs.YtppbhnhmaocdnaaGreatDoor
open Go.RowKit Go.Shelf

def TrimPost (w : World) (d : List UInt8) (e : Ending) (w' : World) : Prop := ∃ t : List UInt8, e = .returned (.string ⟨t.toArray⟩) ∧ (t = [] ↔ d.all isDig = true) ∧ Below w.heap.size w w'

theorem trim_in (d : List UInt8) (w : World) (hd : d.length ≤ 200) :
    Calls Tryz.prog 155 #[.string ⟨d.toArray⟩, .string ⟨#[48, 49, 50, 51, 52, 53, 54, 55, 56, 57]⟩] w (TrimPost w d) := by
  refine (Any.strings_Trim_laid Tryz.lays160 (by kernel_rfl) ⟨d.toArray⟩ ⟨#[48, 49, 50, 51, 52, 53, 54, 55, 56, 57]⟩ w ?_ (by decide) ?_).mono ?_
  · have : (⟨d.toArray⟩ : ByteArray).size = d.length := by simp [ByteArray.size]
    rw [this]; omega
  · intro j b hb
    have hm : b ∈ cut10 := List.mem_of_getElem? hb
    have : ∀ c ∈ cut10, c.toNat < 128 := by decide
    exact this b hm
  · rintro e w' ⟨rfl, hb⟩
    exact ⟨_, rfl, trim_digits d, hb⟩

theorem vld_of {l d : List UInt8} (h : body l = d) : vld l = (!d.isEmpty && decide (d.length ≤ 200) && d.all isDig && (l == [48] || !(d.head? == some 48))) := by rw [← h]; rfl

set_option maxRecDepth 100000 in
set_option maxHeartbeats 1000000 in
theorem isValid_in (s : ByteArray) (w : World) :
    Calls Tryz.prog 121 #[.string s] w fun e w' => e = .returned (.bool (vld s.data.toList)) ∧ Below w.heap.size w w' := by
  obtain ⟨d, hd⟩ : ∃ d, Lib.trimPrefix s.data.toList [45] = d := ⟨_, rfl⟩
  have hv := vld_of (l := s.data.toList) hd
  have HV := Lib.hid hv
  have HT : ∀ W, Calls Tryz.prog 142 #[.string s, .string ⟨#[45]⟩] W fun e w' => e = .returned (.string ⟨d.toArray⟩) ∧ w' = W := fun W => (Tryz.strings_TrimPrefix s ⟨#[45]⟩ W).mono fun e w' h => ⟨by rw [h.1]; show _ = Ending.returned (.string ⟨d.toArray⟩); rw [← hd], h.2⟩
  have HT' := Lib.hid HT
  clear hv hd HT
  by_cases h0 : d = []
  · subst h0
    go_enter Tryz.func121, Tryz.ntmps121
    go_wp2_with (go_at_call 142; refine (HT'.out _).mono ?_; rintro e w' ⟨rfl, rfl⟩)
    go_ret
    exact ⟨by rw [HV.out]; rfl, Below.refl _ _⟩
  · have hpos : d.length ≠ 0 := fun h => h0 (List.length_eq_zero_iff.1 h)
    by_cases h1 : d.length ≤ 200
    · by_cases h2 : d.all isDig = true
      · have H2 := Lib.hid h2
        clear h2
        obtain ⟨c, r, rfl⟩ : ∃ c r, d = c :: r := by
          cases d with
          | nil => exact absurd rfl h0
          | cons c r => exact ⟨c, r, rfl⟩
        clear h0 hpos
        have hdec : decide ((200 : Int) < (r.length : Int) + 1) = false := by simp at h1; simp; omega
        have H1 := Lib.hid h1
        clear h1
        by_cases h3 : s.data.toList = [48]
        · have h4 : s = ⟨#[48]⟩ := by
            cases s with | mk dt => simp at h3; congr 1; exact Array.toList_inj.1 h3
          have HV2 : Hid (vld s.data.toList = true) := by
            show vld s.data.toList = true
            rw [HV.out, h3, H2.out]
            have h1 := H1.out; simp at h1; simp; omega
          subst h4
          go_enter Tryz.func121, Tryz.ntmps121
          go_wp2_with (first
            | (go_at_call 142; refine (HT'.out _).mono ?_; rintro e w' ⟨rfl, rfl⟩)
            | (go_at_call 155; refine (trim_in (c :: r) _ H1.out).mono ?_; rintro e w2 ⟨t, rfl, ht, hb⟩; obtain rfl := ht.2 H2.out; clear ht))
          go_ret
          exact ⟨by rw [HV2.out]; rfl, hb⟩
        · have h3a : ¬ s.toList = [48] := by rw [ByteArray.toList_eq]; exact h3
          have h3b : (s.toList == [48]) = false := by simpa using h3a
          have HV2 : Hid (vld s.data.toList = !(c == 48)) := by
            show vld s.data.toList = _
            have h5 : (s.data.toList == [48]) = false := by simpa using h3
            rw [HV.out, H2.out, h5]
            have h6 : decide ((c :: r).length ≤ 200) = true := by simpa using H1.out
            rw [h6]
            simp
          have H3 := Lib.hid h3
          clear h3
          go_enter Tryz.func121, Tryz.ntmps121
          go_wp2_with (first
            | (go_at_call 142; refine (HT'.out _).mono ?_; rintro e w' ⟨rfl, rfl⟩)
            | (go_at_call 155; refine (trim_in (c :: r) _ H1.out).mono ?_; rintro e w2 ⟨t, rfl, ht, hb⟩; obtain rfl := ht.2 H2.out; clear ht))
          go_ret
          refine ⟨?_, hb⟩
          rw [HV2.out]
          have hx : (((c.toNat : Nat) : Int) != 48) = !(c == 48) := by
            by_cases h9 : c = 48
            · subst h9; rfl
            · have h8 : (c == 48) = false := by simpa using h9
              rw [h8]
              have : ((c.toNat : Nat) : Int) ≠ 48 := fun e => h9 (UInt8.toNat_inj.1 (by show c.toNat = 48; omega))
              simpa using this
          exact congrArg (fun b => Ending.returned (.bool b)) hx
      · have H2 := Lib.hid h2
        have H1 := Lib.hid h1
        have hde : d.isEmpty = false := by cases d with | nil => exact absurd rfl h0 | cons => rfl
        have hdd : decide ((200 : Int) < (d.length : Int)) = false := by simp; omega
        have HV2 : Hid (vld s.data.toList = false) := by
          show vld s.data.toList = false
          rw [HV.out]
          have : d.all isDig = false := by simpa using h2
          rw [this]; simp
        clear h2 h1 h0
        go_enter Tryz.func121, Tryz.ntmps121
        go_wp2_with (first
          | (go_at_call 142; refine (HT'.out _).mono ?_; rintro e w' ⟨rfl, rfl⟩)
          | (go_at_call 155; refine (trim_in d _ H1.out).mono ?_; rintro e w2 ⟨t, rfl, ht, hb⟩; have ht0 : ¬ t = [] := (fun h => H2.out (ht.1 h)); have hte : t.isEmpty = false := (by cases t with | nil => exact absurd rfl ht0 | cons => rfl); clear ht))
        go_ret
        exact ⟨by rw [HV2.out]; rfl, hb⟩
    · have HV2 : Hid (vld s.data.toList = false) := by
        show vld s.data.toList = false
        rw [HV.out]
        have : decide (d.length ≤ 200) = false := by simpa using h1
        rw [this]; simp
      go_enter Tryz.func121, Tryz.ntmps121
      go_wp2_with (go_at_call 142; refine (HT'.out _).mono ?_; rintro e w' ⟨rfl, rfl⟩)
      go_ret
      exact ⟨by rw [HV2.out]; rfl, Below.refl _ _⟩
end Go.Proofs.YtppbhnhmaocdnaaGreatDoor
