/- Reading an integer. -/
import Derived.Lib.AtoiErrMem
import Derived.Test.YtppbhnhmaocdnaaGreatDoorB07
import Derived.Test.YtppbhnhmaocdnaaGreatDoorB08
import Derived.Test.YtppbhnhmaocdnaaGreatDoorB09
set_option linter.unusedVariables false
set_option linter.unusedSimpArgs false
namespace Go.Proofs.YtppbhnhmaocdnaaGreatDoor
open Go.RowKit Go.Shelf

theorem atoi_of {d : List UInt8} {m : Nat} (h : Lib.decFrom 0 d = some m) (h0 : d ≠ []) (h1 : ∀ b ∈ d, isDig b = true) : Lib.atoi d = some (m : Int) := by
  cases d with
  | nil => exact absurd rfl h0
  | cons b r =>
    have hb := (isDig_iff b).1 (h1 b List.mem_cons_self)
    have e1 : (b == 45) = false := by
      rw [beq_eq_false_iff_ne]; intro e; subst e; exact absurd hb.1 (by decide)
    have e2 : (b == 43) = false := by
      rw [beq_eq_false_iff_ne]; intro e; subst e; exact absurd hb.1 (by decide)
    show (if (b == 45) = true then Option.map (fun m : Nat => -(m : Int)) (Lib.decNat r) else if (b == 43) = true then Option.map (fun m : Nat => (m : Int)) (Lib.decNat r) else Option.map (fun m : Nat => (m : Int)) (Lib.decNat (b :: r))) = _
    rw [e1, e2]
    simp only [Bool.false_eq_true, if_false, Lib.decNat, List.isEmpty_cons, h, Option.map_some]

theorem atoi_in (d : List UInt8) (m : Nat) (w : World) (h : Lib.decFrom 0 d = some m) (h0 : d ≠ []) (h1 : ∀ b ∈ d, isDig b = true) (hl : d.length ≤ 18) :
    Calls Tryz.prog 156 #[.string ⟨d.toArray⟩] w fun e w' => e = .returned (.tuple #[.int .i64 (m : Int), .nilIface]) ∧ Below w.heap.size w w' := by
  refine (Tryz.strconv_Atoi ⟨d.toArray⟩ m (by simpa [ByteArray.size] using hl) (atoi_of h h0 h1) w).mono ?_
  rintro e w' ⟨rfl, t, rfl⟩
  exact ⟨rfl, Lib.bytesWorld_below w 5 t⟩

def SignedPost (B : Nat) (w : World) (n : Int) (e : Ending) (w' : World) : Prop := ∃ v, e = .returned (.agg #[.bool (decide (n < 0)), v]) ∧ Reads w' v (digs n.natAbs) ∧ From B v ∧ Below B w w'

theorem dec_split (m : Nat) : ∃ p t : List UInt8, Lib.decDigits m = p ++ t ∧ p.length = (Lib.decDigits m).length - 4 ∧ Lib.decFrom 0 t = some (m % 10000) ∧ (∀ b ∈ t, isDig b = true) ∧ t ≠ [] ∧ t.length ≤ 4 ∧
    ((p = [] ∧ m / 10000 = 0) ∨ (p = Lib.decDigits (m / 10000) ∧ m / 10000 ≠ 0)) := by
  by_cases h : m < 10000
  · have hl := (dec_length_le m 4 (by omega)).2 h
    refine ⟨[], Lib.decDigits m, rfl, by simp; omega, ?_, fun b hb => (isDig_iff b).2 (dec_digit m b hb), dec_ne_nil m, hl, .inl ⟨rfl, by omega⟩⟩
    rw [decFrom_dec]; congr 1; omega
  · have e := dec_pad (q := m / 10000) (r := m % 10000) (by omega) (by omega)
    rw [show 10000 * (m / 10000) + m % 10000 = m by omega] at e
    refine ⟨_, _, e, by rw [e, List.length_append, pad4_length]; omega, decFrom_pad _ (by omega), fun b hb => ?_, by simp [pad4], by simp [pad4], .inr ⟨rfl, by omega⟩⟩
    simp only [pad4, List.mem_cons, List.not_mem_nil, or_false] at hb
    rw [isDig_iff]
    rcases hb with rfl | rfl | rfl | rfl <;> simp <;> omega

theorem ext_drop (d : List UInt8) (a b : Nat) (ha : a ≤ d.length) (hb : b = d.length) : (⟨d.toArray⟩ : ByteArray).extract a b = ⟨(d.drop a).toArray⟩ := by
  subst hb
  apply ByteArray.ext
  simp only [ByteArray.data_extract]
  apply Array.ext'
  simp
  rw [List.take_of_length_le (by simp)]

theorem ext_take (d : List UInt8) (b : Nat) (_hb : b ≤ d.length) : (⟨d.toArray⟩ : ByteArray).extract 0 b = ⟨(d.take b).toArray⟩ := by
  apply ByteArray.ext
  simp only [ByteArray.data_extract]
  apply Array.ext'
  simp

theorem setOff {w : World} {b o o' : Nat} {x : Value} (h : w.cell? ⟨b, o', none⟩ = some x) (hb : o ≠ o') (u : Value) : (w.setCell ⟨b, o, none⟩ u).cell? ⟨b, o', none⟩ = some x := by
  rw [World.cell?_setCell_other]
  · exact h
  · intro e; exact hb (congrArg Addr.off e)

theorem frozenNew (w : World) (C : Array Value) (t : TypeId) (j b : Nat) (hb : b = w.heap.size) : (w.alloc (.cells C t)).frozen? ⟨b, j, none⟩ = false := by
  subst hb
  exact World.frozen?_alloc_at C t _ j rfl
theorem frozenOld {w : World} {o : Obj} {p : Addr} (hp : p.block < w.heap.size) (h : w.frozen? p = false) : (w.alloc o).frozen? p = false :=
  (by exact ((belowNew w o).frozen hp).trans h)

structure ParseI (w : World) (neg : Bool) (N : Nat) (d : List UInt8) (W : World) : Prop where
  s0 : W.cell? ⟨w.heap.size, 0, none⟩ = some (.bool false)
  s1 : W.cell? ⟨w.heap.size, 1, none⟩ = some (.slice none 0 0)
  sf : ∀ j, W.frozen? ⟨w.heap.size, j, none⟩ = false
  x0 : W.cell? ⟨w.heap.size + 1, 0, none⟩ = some (.bool neg)
  xf : ∀ j, W.frozen? ⟨w.heap.size + 1, j, none⟩ = false
  x1 : ∃ v L m, W.cell? ⟨w.heap.size + 1, 1, none⟩ = some v ∧ W.ownsRow (w.heap.size + 2) 3 1 v L.length (L.map fun x : Nat => Value.int .i64 (x : Int)) ∧ Small L ∧ ofD L + 10000 ^ L.length * m = N ∧ L.length + d.length ≤ 200 ∧ ((d = [] ∧ m = 0) ∨ (d = Lib.decDigits m ∧ (m = 0 → L = [])))
  b : Below w.heap.size w W

set_option maxRecDepth 100000 in
set_option maxHeartbeats 1000000 in
theorem parse_in (N : Int) (w : World) (hN : N.natAbs < big) :
    Calls Tryz.prog 122 #[.string (str N)] w (SignedPost w.heap.size w N) := by
  have HT : ∀ W, Calls Tryz.prog 142 #[.string (str N), .string ⟨#[45]⟩] W fun e w' => e = .returned (.string ⟨(Lib.decDigits N.natAbs).toArray⟩) ∧ w' = W := fun W => (Tryz.strings_TrimPrefix (str N) ⟨#[45]⟩ W).mono fun e w' h => ⟨by rw [h.1]; show Ending.returned (.string ⟨(body (str N).data.toList).toArray⟩) = _; rw [str_list, body_itoa], h.2⟩
  have HT' := Lib.hid HT
  clear HT
  have hdec : decide ((Lib.decDigits N.natAbs).length < (str N).size) = decide (N < 0) := by
    have e1 : (str N).size = (Lib.itoa N).length := by simp [str, ByteArray.size]
    rw [e1]
    congr 1
    apply propext
    rcases Int.lt_or_le N 0 with h | h
    · rw [itoa_neg h]; simp; omega
    · rw [itoa_nonneg h]
      have : N.natAbs = N.toNat := by omega
      rw [this]; simp; omega
  have hlen : (Lib.decDigits N.natAbs).length ≤ 200 := (dec_length_le N.natAbs 200 (by omega)).2 hN
  generalize hneg : decide (N < 0) = neg at *
  have HNEG := Lib.hid hneg
  have HLEN := Lib.hid hlen
  have HN := Lib.hid hN
  clear hneg hlen hN
  go_enter Tryz.func122, Tryz.ntmps122
  go_wp2_with (go_at_call 142; refine (HT'.out _).mono ?_; rintro e w' ⟨rfl, rfl⟩)
  go_loopw [3] (fun d wr => ∃ d' : List UInt8, d = .string ⟨d'.toArray⟩ ∧ ParseI w neg N.natAbs d' wr) (fun d _ => match d with | .string s => s.size | _ => 0)
  case atStart =>
    refine ⟨_, rfl, ?_⟩
    have hsz1 := sizeNew w (.cells #[.bool false, .slice none 0 0] 97)
    refine ⟨cellOld (by rw [hsz1]; show w.heap.size < _; omega) (cellAt w _ _ 0 _ rfl), cellOld (by rw [hsz1]; show w.heap.size < _; omega) (cellAt w _ _ 1 _ rfl), fun j => frozenOld (by rw [hsz1]; show w.heap.size < _; omega) (frozenNew w _ _ j _ rfl), cellAt _ _ _ 0 _ hsz1.symm, fun j => frozenNew _ _ _ j _ hsz1.symm, ⟨_, [], N.natAbs, cellAt _ _ _ 1 _ hsz1.symm, World.ownsRow_nil _ _ _ _, fun x hx => absurd hx List.not_mem_nil, by simp [ofD], by have := HLEN.out; simp; exact this, .inr ⟨rfl, fun _ => rfl⟩⟩, (belowNew w _).trans ((belowNew _ _).mono (by rw [hsz1]; omega))⟩
  case round =>
    obtain ⟨d, rfl, ⟨hs0, hs1, hsf, hx0, hxf, ⟨v, L, m, hx1, hown, hL, hv, hll, hd⟩, hB⟩⟩ := hrel
    have HV := Lib.hid hv
    have HL := Lib.hid hL
    rcases hd with ⟨rfl, rfl⟩ | ⟨rfl, hm⟩
    · obtain ⟨av, cv, rfl⟩ := owns_shape hown
      have HR := Reads.of_owns hown
      have HF := From.of_owns hown
      have hofd : ofD L = N.natAbs := by have := HV.out; simpa using this
      have hll' : L.length ≤ 1000000 := by simp at hll; omega
      clear hown hv hL
      have HX1 := Lib.hid hx1
      go_wp2_with (refine (trimmed_in _ L _ HR (by exact hll')).mono ?_; rintro e w2 ⟨v2, rfl, h2, hf2, rfl⟩; obtain ⟨a2, c2, rfl, hc2⟩ := h2.shape)
      have hc1 := setSame HX1.out (.slice a2 (trimL L).length c2)
      have hs01 := setOther (b := w.heap.size + 1) (o := 1) hs0 (by omega) (.slice a2 (trimL L).length c2)
      have hs11 := setOther (b := w.heap.size + 1) (o := 1) hs1 (by omega) (.slice a2 (trimL L).length c2)
      have hs02 := setSame hs01 (.bool neg)
      have hs12 := setOff (o := 0) hs11 (by decide) (.bool neg)
      have hs03 := setOff (o := 1) hs02 (by decide) (.slice a2 (trimL L).length c2)
      have hs13 := setSame hs12 (.slice a2 (trimL L).length c2)
      refine bodyPost_ret_by (v := .agg #[.bool neg, .slice a2 (trimL L).length c2]) (by simp [results, Tryz.f122, go_sem, hs03, hs13]) rfl ?_
      rw [SignedPost, HNEG.out]
      refine ⟨_, rfl, ?_, (hf2 _ HF).mono (by omega), ?_⟩
      · rw [← hofd, ← trimL_eq L HL.out]
        refine ((h2.setCell HX1.out (by intro k n e; cases e) _).setCell hs01 (by intro k n e; cases e) _).setCell hs12 (by intro k n e; cases e) _
      · exact ((hB.setCell (p := ⟨w.heap.size + 1, 1, none⟩) (by show w.heap.size ≤ w.heap.size + 1; omega) _).setCell (p := ⟨w.heap.size, 0, none⟩) (Nat.le_refl _) _).setCell (p := ⟨w.heap.size, 1, none⟩) (Nat.le_refl _) _
    · obtain ⟨p, t, hd, hp, ht, htd, htn, htl, hp2⟩ := dec_split m
      have HM := Lib.hid hm
      have HD := Lib.hid hd
      have HP2 := Lib.hid hp2
      have hpos : 0 < (Lib.decDigits m).length := List.length_pos_iff.2 (dec_ne_nil m)
      generalize hDD : Lib.decDigits m = D at *
      have hfr : (max (0 : Int) ((D.length : Int) - 4)).toNat = p.length := by omega
      have hx1 : (⟨D.toArray⟩ : ByteArray).extract (max (0 : Int) ((D.length : Int) - 4)).toNat D.length = ⟨t.toArray⟩ := by
        rw [ext_drop D _ _ (by omega) rfl, hfr, hd, List.drop_left]
      have hx2 : (⟨D.toArray⟩ : ByteArray).extract 0 (max (0 : Int) ((D.length : Int) - 4)).toNat = ⟨p.toArray⟩ := by
        rw [ext_take D _ (by omega), hfr, hd, List.take_left]
      have HX1 := Lib.hid hx1
      have HX2 := Lib.hid hx2
      have HDD := Lib.hid hDD
      have hpt : p.length + t.length = D.length := by rw [hd, List.length_append]
      clear hm hv hL hd hp2 hx1 hx2 hDD hfr
      go_wp2_with fail
      rw [HX1.out]
      have hrlt : m % 10000 < 10000 := Nat.mod_lt _ (by omega)
      generalize hr : m % 10000 = r at *
      have HR := Lib.hid hr
      clear hr
      obtain ⟨av, cv, rfl⟩ := owns_shape hown
      refine (atoi_in t r _ ht htn htd (by omega)).mono ?_
      rintro e w2 ⟨rfl, hb2⟩
      have hx12 := Below.get hb2 hx1
      have hx02 := Below.get hb2 hx0
      have hxf2 : ∀ j, w2.frozen? ⟨w.heap.size + 1, j, none⟩ = false := fun j => (hb2.frozen (p := ⟨w.heap.size + 1, j, none⟩) (ltOf hx1)).trans (hxf j)
      have hs02 := Below.get hb2 hs0
      have hs12 := Below.get hb2 hs1
      have hsf2 : ∀ j, w2.frozen? ⟨w.heap.size, j, none⟩ = false := fun j => (hb2.frozen (p := ⟨w.heap.size, j, none⟩) (ltOf hs0)).trans (hsf j)
      have HOWN := Lib.hid (owns_below hown hb2)
      have hsz2 : w.heap.size + 2 ≤ w2.heap.size := ltOf hx12
      have hB2 := hB.trans (hb2.mono hB.size)
      clear hx1 hx0 hxf hs0 hs1 hsf hown hB hb2 ht htd htn
      go_wp2_with (at_builtin; refine wpList_append_one rfl _ _ 95 rfl Tryz.underT Tryz.infoI (w.heap.size + 2) w2 (r : Int) (.slice av L.length cv) L.length _ rfl HOWN.out rfl (by omega) hsz2 ?_)
      intro v' w3 hown3 hb3
      obtain ⟨av3, cv3, rfl⟩ := owns_shape hown3
      have hx13 := (hb3.cell (p := ⟨w.heap.size + 1, 1, none⟩) (by show w.heap.size + 1 < _; omega)).trans hx12
      have hx03 := (hb3.cell (p := ⟨w.heap.size + 1, 0, none⟩) (by show w.heap.size + 1 < _; omega)).trans hx02
      have hxf3 : ∀ j, w3.frozen? ⟨w.heap.size + 1, j, none⟩ = false := fun j => (hb3.frozen (p := ⟨w.heap.size + 1, j, none⟩) (by show w.heap.size + 1 < _; omega)).trans (hxf2 j)
      have hs03 := (hb3.cell (p := ⟨w.heap.size, 0, none⟩) (by show w.heap.size < _; omega)).trans hs02
      have hs13 := (hb3.cell (p := ⟨w.heap.size, 1, none⟩) (by show w.heap.size < _; omega)).trans hs12
      have hsf3 : ∀ j, w3.frozen? ⟨w.heap.size, j, none⟩ = false := fun j => (hb3.frozen (p := ⟨w.heap.size, j, none⟩) (by show w.heap.size < _; omega)).trans (hsf2 j)
      have HOWN3 := Lib.hid hown3
      have hB3 := hB2.trans (hb3.mono (by omega))
      clear hx12 hx02 hxf2 hs02 hs12 hsf2 hown3 hB2 hb3 HOWN
      go_wp2
      have hb0 : (w3.setCell ⟨w.heap.size + 1, 1, none⟩ (.slice av3 (L.length + 1) cv3)).cell? ⟨w.heap.size + 1, 1, none⟩ = some (.slice av3 (L.length + 1) cv3) := setSame hx13 _
      have hpl : p.length = D.length - t.length := by omega
      have htp : 0 < t.length := by
        rcases Nat.eq_zero_or_pos t.length with h0 | h0
        · omega
        · exact h0
      have hofd : ofD (L ++ [r]) + 10000 ^ (L ++ [r]).length * (m / 10000) = N.natAbs := by
        have e1 := HV.out
        have e2 : m = 10000 * (m / 10000) + r := by have := HR.out; omega
        rw [ofD_append, List.length_append]
        simp only [ofD, List.length_cons, List.length_nil, Nat.pow_succ, Nat.pow_zero]
        rw [← e1]
        conv => rhs; rw [e2]
        generalize 10000 ^ L.length = T
        generalize m / 10000 = q
        rw [Nat.mul_add T (10000 * q) r, ← Nat.mul_assoc T 10000 q]
        simp only [Nat.mul_add, Nat.mul_zero, Nat.zero_add, Nat.one_mul, Nat.mul_one, Nat.add_zero]
        omega
      refine ⟨⟨p, by rw [HX2.out], ⟨setOther hs03 (by omega) _, setOther hs13 (by omega) _, fun j => (by rw [World.frozen?_setCell]; exact hsf3 j), setOff hx03 (by decide) _, fun j => (by rw [World.frozen?_setCell]; exact hxf3 j), ⟨.slice av3 (L.length + 1) cv3, L ++ [r], m / 10000, hb0, ?_, ?_, hofd, ?_, ?_⟩, hB3.setCell (p := ⟨w.heap.size + 1, 1, none⟩) (by show w.heap.size ≤ w.heap.size + 1; omega) _⟩⟩, ?_⟩
      · rw [List.length_append, List.map_append]
        exact owns_set HOWN3.out (by omega) _
      · intro x hx
        rcases List.mem_append.1 hx with h | h
        · exact HL.out x h
        · rw [List.mem_singleton.1 h]; exact hrlt
      · rw [List.length_append, List.length_singleton]; omega
      · rcases HP2.out with ⟨e, e'⟩ | ⟨e, e'⟩
        · exact .inl ⟨e, e'⟩
        · exact .inr ⟨e, fun h => absurd h e'⟩
      · rw [HX2.out]
        simp [ByteArray.size]
        omega
end Go.Proofs.YtppbhnhmaocdnaaGreatDoor
