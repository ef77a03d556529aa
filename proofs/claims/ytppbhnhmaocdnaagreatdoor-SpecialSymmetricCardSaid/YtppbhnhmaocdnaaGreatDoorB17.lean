/- A number as text. -/
import Derived.Shelf.Strings.BuilderK
import Derived.Shelf.Strings.Repeat
import Derived.Lib.AppendIntMem
import Derived.Test.YtppbhnhmaocdnaaGreatDoorShelf
import Derived.Test.YtppbhnhmaocdnaaGreatDoorB16
set_option linter.unusedVariables false
set_option linter.unusedSimpArgs false
namespace Go.Proofs.YtppbhnhmaocdnaaGreatDoor
open Go.RowKit Go.Shelf

attribute [local go_sem] Oper.semAt_some

def piece (zs : List Nat) (j : Nat) : List UInt8 := if j + 1 < zs.length then pad4 (itm zs j) else Lib.decDigits (itm zs j)
def txt (zs : List Nat) (l : List Nat) : List UInt8 := l.flatMap (piece zs)

theorem txt_snoc (zs l : List Nat) (j : Nat) : txt zs (l ++ [j]) = txt zs l ++ piece zs j := by simp [txt]

theorem piece_length (zs : List Nat) (j : Nat) (h : itm zs j < 10000) : (piece zs j).length ≤ 4 := by
  unfold piece
  split
  · simp [pad4]
  · exact (dec_length_le _ 4 (by omega)).2 h

theorem txt_length (zs : List Nat) (h : ∀ j, itm zs j < 10000) (l : List Nat) : (txt zs l).length ≤ 4 * l.length := by
  induction l with
  | nil => simp [txt]
  | cons a l ih =>
    have := piece_length zs a (h a)
    simp only [txt, List.flatMap_cons, List.length_append, List.length_cons] at *
    omega

theorem txt_downs (m : Nat) : ∀ k, k ≤ (digs m).length → txt (digs m) (downs (digs m).length k) = if k = 0 then [] else Lib.decDigits (m / 10000 ^ ((digs m).length - k))
  | 0, _ => by simp [txt, downs, upto]
  | k + 1, hk => by
    have ih := txt_downs m k (by omega)
    have e : downs (digs m).length (k + 1) = downs (digs m).length k ++ [(digs m).length - 1 - k] := by simp only [downs, upto_succ]
    rw [e, txt_snoc, ih, if_neg (Nat.succ_ne_zero k)]
    have hi : itm (digs m) ((digs m).length - 1 - k) = m / 10000 ^ ((digs m).length - 1 - k) % 10000 := by rw [itm, ← List.getD_eq_getElem?_getD]; exact digs_getD m _
    have he : (digs m).length - (k + 1) = (digs m).length - 1 - k := by omega
    unfold piece
    rw [hi, he]
    by_cases h0 : k = 0
    · subst h0
      rw [if_pos rfl, if_neg (by omega), List.nil_append]
      have hm : m < 10000 ^ (digs m).length := (digs_length_le_iff m _).1 (Nat.le_refl _)
      have hlt : m / 10000 ^ ((digs m).length - 1 - 0) < 10000 := by
        rw [Nat.div_lt_iff_lt_mul (Nat.pow_pos (by omega))]
        have : 10000 * 10000 ^ ((digs m).length - 1 - 0) = 10000 ^ (digs m).length := by
          rw [Nat.mul_comm, ← Nat.pow_succ]; congr 1; omega
        omega
      rw [Nat.mod_eq_of_lt hlt]
    · rw [if_neg h0, if_pos (by omega)]
      have hq : m / 10000 ^ ((digs m).length - k) = m / 10000 ^ ((digs m).length - 1 - k) / 10000 := by
        rw [Nat.div_div_eq_div_mul, ← Nat.pow_succ]; congr 2; omega
      have hpos : 0 < m / 10000 ^ ((digs m).length - k) := by
        rcases Nat.eq_zero_or_pos (m / 10000 ^ ((digs m).length - k)) with h | h
        · rw [Nat.div_eq_zero_iff] at h
          rcases h with h | h
          · have := Nat.pow_pos (n := (digs m).length - k) (show 0 < 10000 by omega); omega
          · have := (digs_length_le_iff m ((digs m).length - k)).2 h; omega
        · exact h
      have := dec_pad (q := m / 10000 ^ ((digs m).length - k)) (r := m / 10000 ^ ((digs m).length - 1 - k) % 10000) hpos (Nat.mod_lt _ (by omega))
      rw [← this]
      congr 1
      rw [hq]
      omega

theorem txt_all (m : Nat) (h : 0 < m) : txt (digs m) (downs (digs m).length (digs m).length) = Lib.decDigits m := by
  rw [txt_downs m _ (Nat.le_refl _), if_neg (by intro e; have := digs_eq_nil.1 (List.length_eq_zero_iff.1 e); omega), Nat.sub_self, Nat.pow_zero, Nat.div_one]

theorem repeat_zero (c : Nat) : Lib.repeatL [48] c = List.replicate c 48 := by
  induction c with
  | zero => rfl
  | succ c ih => rw [Lib.repeatL, ih, List.replicate_succ]; rfl

def TabOf (w : World) : Prop := Lib.TabIs Tryz.prog w "internal/strconv.uint64pow10" .u64 Lib.pow10Tab
theorem TabOf.below {w w' : World} (h : TabOf w) (hb : Below w.heap.size w w') : TabOf w' := Lib.tabBelow_of_tabIs h w' hb

theorem itoa_in (n : Int) (w : World) (hn : n.natAbs ≤ 1000000000000000000) (ht : TabOf w) :
    Calls Tryz.prog 124 #[.int .i64 n] w fun e w' => e = .returned (.string (str n)) ∧ Below w.heap.size w w' := by
  refine (Tryz.strconv_Itoa n (by omega) (by omega) w ht).mono ?_
  rintro e w' ⟨rfl, k, os, rfl⟩
  exact ⟨rfl, Lib.below_grow _ _ (Nat.le_refl _) _ _⟩

theorem zeros_in (c : Nat) (hc : c ≤ 1000) (w : World) :
    Calls Tryz.prog 89 #[.string ⟨#[48]⟩, .int .i64 c] w fun e w' => e = .returned (.string ⟨(List.replicate c 48).toArray⟩) ∧ Below w.heap.size w w' := by
  refine (Tryz.strings_Repeat ⟨#[48]⟩ c w (by omega) (by show 1 * c ≤ _; omega)).mono ?_
  rintro e w' ⟨rfl, h⟩
  refine ⟨?_, h⟩
  rw [← repeat_zero]

def Bld (b : Nat) (l : List UInt8) (w : World) : Prop := Lib.IsBuilderF 135 5 b b (Lib.byteCells l) w

theorem write_in (b : Nat) (l s : List UInt8) (w : World) (h : Bld b l w) (hl : l.length + s.length ≤ 1000000) (hb : b ≤ w.heap.size) :
    Calls Tryz.prog 125 #[.pointer (some ⟨b, 0, none⟩), .string ⟨s.toArray⟩] w fun e w' => (∃ v, e = .returned v) ∧ Bld b (l ++ s) w' ∧ Below b w w' ∧ Lib.OthersKept 5 (some b) w w' := by
  refine (Any.Builder_WriteString_k (ρ := Tryz.lays105_ren) { Tryz.lays105 with } Tryz.Builder_Extra_105 b b (Lib.byteCells l) ⟨s.toArray⟩ w h (by simp [ByteArray.size, Lib.byteCells_length]; omega) hb).mono ?_
  rintro e w' ⟨rfl, h1, h2, h3⟩
  refine ⟨⟨_, rfl⟩, .inr ?_, h2, h3⟩
  rw [Lib.byteCells_append]
  exact h1

theorem string_in (b : Nat) (l : List UInt8) (w : World) (h : Bld b l w) (hb : b ≤ w.heap.size) :
    Calls Tryz.prog 126 #[.pointer (some ⟨b, 0, none⟩)] w fun e w' => e = .returned (.string ⟨l.toArray⟩) ∧ Below b w w' ∧ Lib.OthersKept 5 (some b) w w' := by
  refine (Any.Builder_String_any_k (ρ := Tryz.lays105_ren) { Tryz.lays105 with } Tryz.Builder_Extra_105 b b l w h hb).mono ?_
  rintro e w' ⟨rfl, h1, h2, h3⟩
  exact ⟨rfl, h2, h3⟩

theorem bld_kept {b : Nat} {l : List UInt8} {W W' : World} {row : Option Nat} (h : Bld b l W) (hg : W.grownBy W' row) (hr : ∀ r, row = some r → ∃ o : Obj, W.heap[r]? = some o ∧ o.isCells = false) : Bld b l W' := by
  have key : ∀ (k : Nat) (o : Obj), W.heap[k]? = some o → o.isCells = true → W'.heap[k]? = some o := by
    intro k o hk ho
    rw [hg.block k (Array.getElem?_eq_some_iff.1 hk).1 ?_]
    · exact hk
    · intro e
      obtain ⟨o', h1, h2⟩ := hr k e.symm
      rw [hk] at h1
      cases h1
      rw [ho] at h2
      cases h2
  have at_ : ∀ p, Lib.BuilderAtF 135 5 b b p (Lib.byteCells l) W → Lib.BuilderAtF 135 5 b b p (Lib.byteCells l) W' := by
    rintro p ⟨hB, v, hb, hown, hne⟩
    refine ⟨hB, v, key _ _ hb rfl, ⟨hown.1, ?_⟩, hne⟩
    rcases hown.2 with hn | ⟨g, cap, cur, fz, hv, hbg, hgg, rest⟩
    · exact .inl hn
    · exact .inr ⟨g, cap, cur, fz, hv, hbg, key _ _ hgg rfl, rest⟩
  exact h.elim (fun x => .inl (at_ _ x)) (fun x => .inr (at_ _ x))

theorem Bld.below {b : Nat} {l : List UInt8} {W W' : World} (h : Bld b l W) (hb : Below W.heap.size W W') : Bld b l W' :=
  bld_kept h (row := none) ⟨hb.os, hb.tape, hb.output, hb.size, fun k hk _ => hb.block k hk⟩ (fun r e => by cases e)

structure TextI (p : Bool) (m : Nat) (w : World) (v : Value) (pre : List Nat) (W : World) : Prop where
  bld : Bld (w.heap.size + 1) (txt (digs m) pre) W
  x0 : W.cell? ⟨w.heap.size, 0, none⟩ = some (.bool p)
  x1 : W.cell? ⟨w.heap.size, 1, none⟩ = some v

def TextPost (p : Bool) (m : Nat) (w : World) (e : Ending) (w' : World) : Prop :=
  e = .returned (.tuple #[.string (if m < big then str (sv p m) else ⟨#[]⟩), .int .i64 (if m < big then 0 else 30)]) ∧ Below w.heap.size w w'

theorem text_round {p : Bool} {m B : Nat} {w W W4 W5 : World} {v : Value} {l2 : List Nat} (hbox : Boxed W (w.heap.size + 1 + 1) 95 v) (hx0 : W.cell? ⟨w.heap.size, 0, none⟩ = some (.bool p)) (hx1 : W.cell? ⟨w.heap.size, 1, none⟩ = some v)
    (hB : Below w.heap.size w W) (hsz1 : w.heap.size + 1 < W.heap.size) (h4 : Below W.heap.size W W4) (h5 : Below (w.heap.size + 1) W4 W5) (hk : Lib.OthersKept 5 (some (w.heap.size + 1)) W4 W5) (hbld : Bld (w.heap.size + 1) (txt (digs m) l2) W5) (hBB : w.heap.size + 2 ≤ B) :
    KeepsFrom B W W5 ∧ KeepB w.heap.size (w.heap.size + 1 + 1) W W5 ∧ TextI p m w v l2 W5 ∧ Below w.heap.size w W5 ∧ Boxed W5 (w.heap.size + 1 + 1) 95 v := by
  have hs4 := h4.size
  have hlt := hbox.lt
  have hbox4 : W4.heap[w.heap.size + 1 + 1]? = some (.cells #[v] 95) := (h4.block _ hlt).trans hbox
  have hbox5 := hk _ _ hbox4 (by simp) (by intro c fz e; simp at e)
  have hBW : Below w.heap.size W W5 := (h4.mono (by omega)).trans (h5.mono (by omega))
  refine ⟨⟨Nat.le_trans hs4 h5.size, fun k o hkB hk1 ho => hk _ _ ((h4.block _ (Array.getElem?_eq_some_iff.1 hk1).1).trans hk1) ?_ (by intro c fz e; subst e; cases ho)⟩, ⟨hBW, hbox5.trans hbox.symm⟩, ⟨hbld, ?_, ?_⟩, hB.trans hBW, hbox5⟩
  · intro e; have := Option.some.inj e; omega
  · exact (h5.cell (p := ⟨w.heap.size, 0, none⟩) (by show w.heap.size < _; omega)).trans (Below.get h4 hx0)
  · exact (h5.cell (p := ⟨w.heap.size, 1, none⟩) (by show w.heap.size < _; omega)).trans (Below.get h4 hx1)

set_option maxRecDepth 100000 in
set_option maxHeartbeats 2000000 in
theorem text_wide (p : Bool) (v : Value) (m : Nat) (w : World) (h1 : Reads w v (digs m)) (l1 : (digs m).length ≤ 4000) (ht : TabOf w) :
    CallsIn Fence.wide 5 Tryz.prog 80 #[.agg #[.bool p, v]] w (TextPost p m w) := by
  obtain ⟨a1, k1, rfl, _⟩ := h1.shape
  have hfn : ∀ k, Fence.wide.fn k := fun _ => trivial
  rcases Nat.eq_zero_or_pos m with rfl | hm
  · have hz : digs 0 = [] := digs_zero
    rw [hz] at h1 ⊢
    have HP : Hid (TextPost p 0 w = fun e w' => e = .returned (.tuple #[.string ⟨#[48]⟩, .int .i64 0]) ∧ Below w.heap.size w w') := Lib.hid (by
      funext e w'
      unfold TextPost
      have : str (sv p 0) = ⟨#[48]⟩ := by cases p <;> simp [sv, str, itoa_zero]
      rw [if_pos big_pos, if_pos big_pos, this])
    refine callsIn_of_wp_marks Tryz.func80 rfl trivial ?_ rfl
    simp only [Tryz.ntmps80, List.size_toArray, List.length_cons, List.length_nil, Nat.reduceAdd, Nat.reduceSub, Array.replicate_succ, Array.replicate_zero, List.push_toArray, List.append_toArray, List.nil_append, List.cons_append]
    gi_wp2
    refine ⟨.tuple #[.string ⟨#[48]⟩, .int .i64 0], by simp [results, Tryz.f80, go_sem], ?_⟩
    rw [HP.out]
    exact ⟨rfl, belowNew _ _⟩
  have hpos : 0 < (digs m).length := by
    rcases Nat.eq_zero_or_pos (digs m).length with h | h
    · have := digs_eq_nil.1 (List.length_eq_zero_iff.1 h); omega
    · exact h
  refine callsIn_of_wp_marks Tryz.func80 rfl trivial ?_ rfl
  simp only [Tryz.ntmps80, List.size_toArray, List.length_cons, List.length_nil, Nat.reduceAdd, Nat.reduceSub, Array.replicate_succ, Array.replicate_zero, List.push_toArray, List.append_toArray, List.nil_append, List.cons_append]
  gi_wp2_with (gi_at_call 123; refine (back_in _ _ _ _ _).mono ?_; rintro e w' ⟨rfl, rfl⟩)
  have bX := World.alloc_heap_new w (.cells #[.bool p, .slice a1 (digs m).length k1] 97)
  have hB0 : Below w.heap.size w (((w.alloc (.cells #[.bool p, .slice a1 (digs m).length k1] 97)).alloc (.cells #[.pointer none, .slice none 0 0] 135)).alloc (.cells #[.slice a1 (digs m).length k1] 95)) := ((belowNew w _).alloc (by simp) _).alloc (by simp; omega) _
  have bN := Boxed.new ((w.alloc (.cells #[.bool p, .slice a1 (digs m).length k1] 97)).alloc (.cells #[.pointer none, .slice none 0 0] 135)) 95 (.slice a1 (digs m).length k1)
  rw [World.size_alloc, World.size_alloc] at bN
  have hj0 : TextI p m w (.slice a1 (digs m).length k1) [] (((w.alloc (.cells #[.bool p, .slice a1 (digs m).length k1] 97)).alloc (.cells #[.pointer none, .slice none 0 0] 135)).alloc (.cells #[.slice a1 (digs m).length k1] 95)) := by
    have hsz := sizeNew w (.cells #[.bool p, .slice a1 (digs m).length k1] 97)
    refine ⟨?_, cellOld (by rw [sizeNew, hsz]; show w.heap.size < _; omega) (cellOld (by rw [hsz]; show w.heap.size < _; omega) (cellAt _ _ _ 0 _ rfl)), cellOld (by rw [sizeNew, hsz]; show w.heap.size < _; omega) (cellOld (by rw [hsz]; show w.heap.size < _; omega) (cellAt _ _ _ 1 _ rfl))⟩
    refine Bld.below (W := (w.alloc (.cells #[.bool p, .slice a1 (digs m).length k1] 97)).alloc (.cells #[.pointer none, .slice none 0 0] 135)) ?_ (belowNew _ _)
    refine .inl ⟨Nat.le_refl _, .slice none 0 0, ?_, ⟨rfl, .inl ⟨rfl, rfl⟩⟩, by simp [Value.ownBlock]⟩
    have := World.alloc_heap_new (w.alloc (.cells #[.bool p, .slice a1 (digs m).length k1] 97)) (.cells #[.pointer none, .slice none 0 0] 135)
    rwa [hsz] at this
  refine wpIn_rangeFunc_ownG rfl (by omega) (gf := 157) (lb := #[.pointer (some ⟨w.heap.size + 1 + 1, 0, none⟩)]) rfl trivial (enters_of Tryz.func157 (by kernel_rfl) rfl)
    (back_stops 4 (by omega) (w.heap.size + 1 + 1) w.heap.size _ (digs m) (by omega) _ (by simp) bN.cell w rfl hB0 h1) KeepB.trans (KeepB.b (by simp; omega) (by simp)) (Below.refl _ _) (fun _ => rfl)
    (fun pre W => TextI p m w (.slice a1 (digs m).length k1) (fvals pre) W ∧ Below w.heap.size w W ∧ Boxed W (w.heap.size + 1 + 1) 95 (.slice a1 (digs m).length k1))
    (fun c pre W => False)
    (OwnFrom.and (Own.from (fun s A B row hs hg hr => ⟨bld_kept hs.bld hg hr, cell_kept hs.x0 hg hr, cell_kept hs.x1 hg hr⟩) _)
      (OwnFrom.and (ownFrom_below (Nat.le_refl _) (by simp; omega)) (Own.from (fun s A B row hs hg hr => hs.kept hg (fun e => by obtain ⟨o, h1, h2⟩ := hr _ e.symm; rw [show A.heap[w.heap.size + 1 + 1]? = _ from hs] at h1; cases h1; cases h2)) _)))
    (fun _ _ _ _ _ hs _ _ => hs)
    ⟨hj0, hB0, bN⟩
    (fun x => { tmps := #[.agg #[.bool p, .slice a1 (digs m).length k1], .pointer (some ⟨w.heap.size, 0, none⟩), .string ⟨#[]⟩, .int .i64 0, .pointer (some ⟨w.heap.size + 1, 0, none⟩), .int .i64 ((x.val : Nat) : Int), .int .i64 ((itm (digs m) x.val : Nat) : Int), undef, undef,
        .pointer (some ⟨w.heap.size, 1, none⟩), .slice a1 (digs m).length k1, .int .i64 (digs m).length, .bool false, .pointer (some ⟨w.heap.size, 1, none⟩), .slice a1 (digs m).length k1,
        .func (.func 157) #[] #[.pointer (some ⟨w.heap.size + 1 + 1, 0, none⟩)], .int .i64 ((x.val : Nat) : Int), .int .i64 ((itm (digs m) x.val : Nat) : Int),
        undef, undef, undef, undef, undef, undef, undef, undef, undef, undef, undef, undef, undef, undef, undef, undef, undef, undef, undef, undef, undef, undef, undef, undef, undef], defers := [] }) ?assign ?body ?done ?stop
  case assign =>
    intro l x W K hK
    unfold yields
    gi_wp2
    exact hK
  case body =>
    rintro l pre x W ⟨⟨hbld, hx0, hx1⟩, hB, hbox⟩ hlen
    have hc := itm_lt m x.val
    have hpl := txt_length (digs m) (itm_lt m) (fvals pre)
    rw [fvals_length] at hpl
    have htW := ht.below hB
    have hsn : txt (digs m) (fvals (pre ++ [x])) = txt (digs m) (fvals pre) ++ piece (digs m) x.val := by rw [fvals_snoc, txt_snoc]
    have hpc := piece_length (digs m) x.val hc
    have hsz1 : w.heap.size + 1 < W.heap.size := by have := hbox.lt; omega
    have hxl := x.isLt
    by_cases hlt : x.val + 1 < (digs m).length
    · have hpie : piece (digs m) x.val = List.replicate (4 - (Lib.decDigits (itm (digs m) x.val)).length) 48 ++ Lib.decDigits (itm (digs m) x.val) := by
        rw [piece, if_pos hlt, pad4_eq hc]
      have hdl := (dec_length_le (itm (digs m) x.val) 4 (by omega)).2 hc
      generalize itm (digs m) x.val = c at *
      obtain ⟨k, hk⟩ : ∃ k : Nat, (Lib.decDigits c).length + k = 4 := ⟨4 - (Lib.decDigits c).length, by omega⟩
      have hk4 : 4 - (Lib.decDigits c).length = k := by omega
      have hstr : str (c : Int) = ⟨(Lib.decDigits c).toArray⟩ := by rw [str, itoa_nat]
      have hI := Lib.hid (fun W' h => itoa_in (c : Int) W' (by omega) h)
      rw [hstr] at hI
      rw [hk4] at hpie
      generalize hd : Lib.decDigits c = d at *
      have hkk : 4 - (d.length : Int) = (k : Int) := by omega
      have HK := Lib.hid hkk
      have HCAT : Hid (({ data := Array.replicate k 48 } ++ { data := d.toArray } : ByteArray) = ⟨(List.replicate k 48 ++ d).toArray⟩) := Lib.hid (by apply ByteArray.ext; simp)
      have hk1 : k ≤ 1000 := by omega
      have hkd : k + d.length ≤ 4 := by omega
      have HPI := Lib.hid hpie
      have HSN := Lib.hid hsn
      have HPL := Lib.hid hpl
      have HDL := Lib.hid hk
      have HB := Lib.hid hbld
      have hlt2 : decide ((x.val : Int) < ((digs m).length : Int) - 1) = true := decide_eq_true (by omega)
      clear hkk hpie hsn hpl hk hd hbld hk4 hstr hpc hdl
      gi_wp2_with (first
        | (gi_at_call 124; refine (CallsIn.inRound l (callsIn_wide.2 (hI.out _ htW))).mono ?_; rintro e w3 ⟨rfl, hb3⟩; have y1 := Below.get hb3 hx1)
        | (gi_at_call 89; rw [HK.out]; refine (CallsIn.inRound l (callsIn_wide.2 (zeros_in k (by omega) _))).mono ?_; rintro e w4 ⟨rfl, hb4⟩)
        | (gi_at_call 125; go_loud (rw [HCAT.out]; refine (CallsIn.inRound l (callsIn_wide.2 (write_in (w.heap.size + 1) _ _ _ ((HB.out.below hb3).below hb4) (by have := HPL.out; have := HDL.out; simp; omega) (by have := hb3.size; have := hb4.size; omega)))).mono ?_; rintro e w5 ⟨⟨v5, rfl⟩, hbld5, hb5, hk5⟩)))
      have hW4 : Below W.heap.size W w4 := hb3.trans (hb4.mono hb3.size)
      refine text_round hbox hx0 hx1 hB hsz1 hW4 hb5 hk5 ?_ (by simp)
      rw [HSN.out, HPI.out]
      exact hbld5
    · have hpie : piece (digs m) x.val = Lib.decDigits (itm (digs m) x.val) := by
        rw [piece, if_neg hlt]
      have hdl := (dec_length_le (itm (digs m) x.val) 4 (by omega)).2 hc
      generalize itm (digs m) x.val = c at *
      have hstr : str (c : Int) = ⟨(Lib.decDigits c).toArray⟩ := by rw [str, itoa_nat]
      have hI := Lib.hid (fun W' h => itoa_in (c : Int) W' (by omega) h)
      rw [hstr] at hI
      generalize hd : Lib.decDigits c = d at *
      have HPI := Lib.hid hpie
      have HSN := Lib.hid hsn
      have HPL := Lib.hid hpl
      have HB := Lib.hid hbld
      have hlt2 : decide ((x.val : Int) < ((digs m).length : Int) - 1) = false := decide_eq_false (by omega)
      clear hpie hsn hpl hd hbld hstr hpc
      gi_wp2_with (first
        | (gi_at_call 124; refine (CallsIn.inRound l (callsIn_wide.2 (hI.out _ htW))).mono ?_; rintro e w3 ⟨rfl, hb3⟩; have y1 := Below.get hb3 hx1)
        | (gi_at_call 125; refine (CallsIn.inRound l (callsIn_wide.2 (write_in (w.heap.size + 1) _ _ _ (HB.out.below hb3) (by have := HPL.out; omega) (by have := hb3.size; omega)))).mono ?_; rintro e w5 ⟨⟨v5, rfl⟩, hbld5, hb5, hk5⟩))
      refine text_round hbox hx0 hx1 hB hsz1 hb3 hb5 hk5 ?_ (by simp)
      rw [HSN.out, HPI.out]
      exact hbld5
  case done =>
    rintro D ys W hD hys ⟨⟨hbld, hx0, hx1⟩, hB, hbox⟩ hK
    rw [hys, txt_all m hm] at hbld
    have hsz1 : w.heap.size + 1 ≤ W.heap.size := by have := hbox.lt; omega
    have hlen : (Lib.decDigits m).length ≤ 200 ↔ m < big := dec_length_le m 200 (by omega)
    have hS := Lib.hid (fun W' h => string_in (w.heap.size + 1) (Lib.decDigits m) W' h)
    have HP : Hid (TextPost p m w = fun e w' => e = .returned (.tuple #[.string (if m < big then (if p then ⟨(45 :: Lib.decDigits m).toArray⟩ else ⟨(Lib.decDigits m).toArray⟩) else ⟨#[]⟩), .int .i64 (if m < big then 0 else 30)]) ∧ Below w.heap.size w w') := Lib.hid (by
      funext e w'
      unfold TextPost
      have : str (sv p m) = if p then ⟨(45 :: Lib.decDigits m).toArray⟩ else ⟨(Lib.decDigits m).toArray⟩ := by
        cases p
        · simp [sv, str, itoa_nat]
        · simp only [sv, if_true, str]
          rw [itoa_neg (by omega)]
          simp
      rw [this])
    have HLEN := Lib.hid hlen
    have HB := Lib.hid hbld
    generalize Lib.decDigits m = d at *
    clear hys hbld hlen h1
    have fin : ∀ w5, Below (w.heap.size + 1) W w5 → Lib.OthersKept 5 (some (w.heap.size + 1)) W w5 → w5.heap[D]? = some (.deferred (some [])) ∧ Below w.heap.size w (w5.putObj D (.deferred none)) := by
      intro w5 hb5 hk5
      have hD3 : w.heap.size + 3 ≤ D := by simpa using hD
      have h1 := hk5 D _ hK (by intro e; have := Option.some.inj e; omega) (by intro c fz e; cases e)
      exact ⟨h1, (hB.trans (hb5.mono (by omega))).trans (belowK_b (w := w) (Nat.le_refl _) w5 D _ _ (by omega) h1 rfl rfl)⟩
    by_cases hbig : m < big
    · have hle : decide ((200 : Int) < (d.length : Int)) = false := decide_eq_false (by have := HLEN.out.2 hbig; omega)
      rw [if_pos hbig, if_pos hbig] at HP
      have hcat : ¬ (9223372036854775807 < 1 + d.length) := by have := HLEN.out.2 hbig; omega
      cases p
      · gi_wp2_with (gi_at_call 126; refine (callsIn_wide.2 (hS.out _ HB.out hsz1)).mono ?_; rintro e w5 ⟨rfl, hb5, hk5⟩; have y0 := (hb5.cell (p := ⟨w.heap.size, 0, none⟩) (Nat.lt_succ_self _)).trans hx0)
        refine ⟨by simp, .inl ⟨_, _, rfl, run_takeDeferred (fin _ hb5 hk5).1, ?_⟩⟩
        refine ⟨_, results_tmp2 rfl _ _ _, ?_⟩
        rw [HP.out]
        exact ⟨rfl, (fin _ hb5 hk5).2⟩
      · gi_wp2_with (gi_at_call 126; refine (callsIn_wide.2 (hS.out _ HB.out hsz1)).mono ?_; rintro e w5 ⟨rfl, hb5, hk5⟩; have y0 := (hb5.cell (p := ⟨w.heap.size, 0, none⟩) (Nat.lt_succ_self _)).trans hx0)
        refine ⟨by simp, .inl ⟨_, _, rfl, run_takeDeferred (fin _ hb5 hk5).1, ?_⟩⟩
        refine ⟨_, results_tmp2 rfl _ _ _, ?_⟩
        rw [HP.out]
        refine ⟨?_, (fin _ hb5 hk5).2⟩
        have : (({ data := #[45] } ++ { data := d.toArray } : ByteArray)) = ⟨(45 :: d).toArray⟩ := by apply ByteArray.ext; simp
        rw [← this]; rfl
    · have hle : decide ((200 : Int) < (d.length : Int)) = true := decide_eq_true (by have := mt HLEN.out.1 hbig; omega)
      rw [if_neg hbig, if_neg hbig] at HP
      gi_wp2_with (gi_at_call 126; refine (callsIn_wide.2 (hS.out _ HB.out hsz1)).mono ?_; rintro e w5 ⟨rfl, hb5, hk5⟩; have y0 := (hb5.cell (p := ⟨w.heap.size, 0, none⟩) (Nat.lt_succ_self _)).trans hx0)
      refine ⟨by simp, .inl ⟨_, _, rfl, run_takeDeferred (fin _ hb5 hk5).1, ?_⟩⟩
      refine ⟨_, results_tmp2 rfl _ _ _, ?_⟩
      rw [HP.out]
      exact ⟨rfl, (fin _ hb5 hk5).2⟩
  case stop =>
    rintro D c pre W hD _ h _
    exact h.elim

theorem text_in (p : Bool) (v : Value) (m : Nat) (w : World) (h1 : Reads w v (digs m)) (l1 : (digs m).length ≤ 4000) (ht : TabOf w) :
    Calls Tryz.prog 80 #[.agg #[.bool p, v]] w (TextPost p m w) :=
  callsIn_wide.1 (text_wide p v m w h1 l1 ht)

end Go.Proofs.YtppbhnhmaocdnaaGreatDoor
