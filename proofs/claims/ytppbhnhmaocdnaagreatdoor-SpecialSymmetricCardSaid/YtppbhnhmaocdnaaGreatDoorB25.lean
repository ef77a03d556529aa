/- Walks and lemmas: Cells of functions: an argument out of range; the argument whose value is known. Exp. Exp, from what cell answers. Log, from what cell answers. The statement of Log$1 with a variable. PRINTED by wip/gl.py. Log$1: the bounds of the logarithm, below one and above. Chi, from what cell answers. Normal, from what cell answers, between the ends. isUnder: the statement with two variables. PRINTED by wip/gu.py. isUnder, where fifteen places decide. isUnder, where fifty places must decide. -/
import Derived.Test.YtppbhnhmaocdnaaGreatDoorB24
set_option linter.unusedVariables false
set_option linter.unusedSimpArgs false
namespace Go.Proofs.YtppbhnhmaocdnaaGreatDoor
theorem qb25a {α : Type _} (l : List α) (i : Nat) (a : α) : l.toArray.setIfInBounds i a = (l.set i a).toArray := List.setIfInBounds_toArray ..
theorem qb25z {α : Type _} {x : α} {xs : List α} {a : α} : (x :: xs).set 0 a = a :: xs := rfl
theorem qb25s {α : Type _} {x : α} {xs : List α} {i : Nat} {a : α} : (x :: xs).set (i + 1) a = x :: xs.set i a := rfl
open Go.RowKit Go.Shelf

theorem R4.drew {R : Nat} {W : World} {a b c d : Value} (h : R4 R W a b c d) : R4 R W.drew a b c d := ⟨h.c0, h.c1, h.c2, h.c3, h.f⟩
theorem R9.drew {R : Nat} {W : World} {a b c d e f g h i : Value} (k : R9 R W a b c d e f g h i) : R9 R W.drew a b c d e f g h i := ⟨k.c0, k.c1, k.c2, k.c3, k.c4, k.c5, k.c6, k.c7, k.c8, k.fr⟩

structure CelI (w : World) (la lb ha hb aa ab va vb xa xb : ByteArray) (B : Value) (W : World) : Prop where
  f : R9 w.heap.size W (.string la) (.string lb) (.string ha) (.string hb) (.string aa) (.string ab) (.string va) (.string vb) B
  x : RC (w.heap.size + 1) W (.string xa) (.string xb)
  o : R4 (w.heap.size + 1 + 1) W (.string ⟨#[]⟩) (.string ⟨#[]⟩) (.string ⟨#[]⟩) (.string ⟨#[]⟩)
  b : Below w.heap.size w W
theorem CelI.below {w : World} {la lb ha hb aa ab va vb xa xb : ByteArray} {B : Value} {W W' : World} (h : CelI w la lb ha hb aa ab va vb xa xb B W) (k : Below W.heap.size W W') : CelI w la lb ha hb aa ab va vb xa xb B W' :=
  ⟨h.f.below k, h.x.below k, h.o.below k, h.b.trans (k.mono h.b.size)⟩
theorem CelI.drew {w : World} {la lb ha hb aa ab va vb xa xb : ByteArray} {B : Value} {W : World} (h : CelI w la lb ha hb aa ab va vb xa xb B W) : CelI w la lb ha hb aa ab va vb xa xb B W.drew := h.below (Below.refl _ W).drew
theorem CelI.start (w : World) (la lb ha hb aa ab va vb xa xb : ByteArray) (B : Value) (T U V : TypeId) :
    CelI w la lb ha hb aa ab va vb xa xb B (((w.alloc (.cells #[.string la, .string lb, .string ha, .string hb, .string aa, .string ab, .string va, .string vb, B] T)).alloc (.cells #[.string xa, .string xb] U)).alloc (.cells #[.string ⟨#[]⟩, .string ⟨#[]⟩, .string ⟨#[]⟩, .string ⟨#[]⟩] V)) := by
  have n1 := belowNew w (.cells #[.string la, .string lb, .string ha, .string hb, .string aa, .string ab, .string va, .string vb, B] T)
  have k1 := R9.new w T (.string la) (.string lb) (.string ha) (.string hb) (.string aa) (.string ab) (.string va) (.string vb) B
  have e1 := sizeNew w (.cells #[.string la, .string lb, .string ha, .string hb, .string aa, .string ab, .string va, .string vb, B] T)
  generalize w.alloc (.cells #[.string la, .string lb, .string ha, .string hb, .string aa, .string ab, .string va, .string vb, B] T) = W1 at *
  have n2 := belowNew W1 (.cells #[.string xa, .string xb] U)
  have k2 := RC.new W1 U (.string xa) (.string xb)
  have e2 := sizeNew W1 (.cells #[.string xa, .string xb] U)
  generalize W1.alloc (.cells #[.string xa, .string xb] U) = W2 at *
  have n3 := belowNew W2 (.cells #[.string ⟨#[]⟩, .string ⟨#[]⟩, .string ⟨#[]⟩, .string ⟨#[]⟩] V)
  have k3 := R4.new W2 V (.string ⟨#[]⟩) (.string ⟨#[]⟩) (.string ⟨#[]⟩) (.string ⟨#[]⟩)
  rw [e1] at k2
  rw [e2, e1] at k3
  have l2 := n1.trans (n2.mono n1.size)
  exact ⟨(k1.below n2).below n3, k2.below n3, k3, l2.trans (n3.mono l2.size)⟩

set_option maxRecDepth 100000 in
set_option maxHeartbeats 8000000 in
theorem cell_err (lo hi at_ va x : Int × Int) (B : Value) (p : Int) (w : World) (hB : ∃ fn a b, B = .func fn a b ∨ B = .nilFunc) (h1 : IsQ lo) (h2 : IsQ hi) (hx : ShortQ x.1 x.2) (hp1 : -1000000000000000000 ≤ p) (hp2 : p ≤ 1000000000000000000)
    (hr : rightB lo hi x p = false) (ht : TabOf w) :
    Calls Tryz.prog 44 #[FnV lo hi at_ va B, NV x, .int .i64 p] w fun e w' => e = .returned (.tuple #[.agg #[.string ⟨#[]⟩, .string ⟨#[]⟩, .string ⟨#[]⟩, .string ⟨#[]⟩], .int .i64 60]) ∧ Below w.heap.size w w' := by
  have HR := fun W h' => right_in lo hi at_ va x B p W hB h1 h2 hx hp1 hp2 h'
  rw [hr] at HR
  unfold FnV NV at HR ⊢
  clear h1 h2 hx hr
  generalize str x.1 = xa at *
  generalize str x.2 = xb at *
  generalize str lo.1 = la at *
  generalize str lo.2 = lb at *
  generalize str hi.1 = ha at *
  generalize str hi.2 = hb at *
  generalize str at_.1 = aa at *
  generalize str at_.2 = ab at *
  generalize str va.1 = va1 at *
  generalize str va.2 = vb at *
  have HR := Lib.hid HR
  have hI := CelI.start w la lb ha hb aa ab va1 vb xa xb B 57 25 32
  have hBc : B.cells = #[B] := by obtain ⟨fn, a, b, rfl | rfl⟩ := hB <;> rfl
  have x0 := hI.f.c0
  have x1 := hI.f.c1
  have x2 := hI.f.c2
  have x3 := hI.f.c3
  have x4 := hI.f.c4
  have x5 := hI.f.c5
  have x6 := hI.f.c6
  have x7 := hI.f.c7
  have x8 := hI.f.c8
  have x9 := hI.x.c00
  have x10 := hI.x.c01
  go_enter Tryz.func44, Tryz.ntmps44
  go_wp2_with (go_at_call 53; refine (HR.out _ (ht.below hI.b)).mono ?_; rintro e w1 ⟨rfl, hb1⟩; have i1 := hI.below hb1; have z0 := i1.o.c0; have z1 := i1.o.c1; have z2 := i1.o.c2; have z3 := i1.o.c3; have z4 := i1.o.f)
  have r5 := i1.o.put (.string ⟨#[]⟩) (.string ⟨#[]⟩) (.string ⟨#[]⟩) (.string ⟨#[]⟩)
  refine bodyPost_ret_by (v := .tuple #[.agg #[.string ⟨#[]⟩, .string ⟨#[]⟩, .string ⟨#[]⟩, .string ⟨#[]⟩], .int .i64 60]) (by simp [results, Tryz.f44, go_sem, r5.c0, r5.c1, r5.c2, r5.c3]) rfl ⟨rfl, below_put4 i1.b _ _ _ _ (by omega)⟩

set_option maxRecDepth 100000 in
set_option maxHeartbeats 8000000 in
theorem cell_at (lo hi at_ va : Int × Int) (B : Value) (p : Nat) (w : World) (hB : ∃ fn a b, B = .func fn a b ∨ B = .nilFunc) (h1 : IsQ lo) (h2 : IsQ hi) (hx : ShortQ at_.1 at_.2) (hp2 : p ≤ 12) (hv : IsQ va)
    (hr : rightB lo hi at_ p = true) (hrd : RndOk va.1 va.2 va.1 va.2 p) (ht : TabOf w) :
    Calls Tryz.prog 44 #[FnV lo hi at_ va B, NV at_, .int .i64 p] w (IvPost (gnum false va.1 va.2 p) (gden false va.1 va.2 p) (gnum true va.1 va.2 p) (gden true va.1 va.2 p) w) := by
  have HR := fun W h' => right_in lo hi at_ va at_ B p W hB h1 h2 hx (by omega) (by omega) h'
  have HPT := fun W h' => point_in va.1 va.2 W hv h'
  have HRD := fun W h' => round_in va.1 va.2 va.1 va.2 p W hrd h'
  rw [hr] at HR
  unfold FnV NV at HR ⊢
  unfold IvPost at HRD ⊢
  unfold IV at HPT HRD ⊢
  unfold RV at HPT
  clear h1 h2 hx hr hv hrd
  generalize str (gnum false va.1 va.2 p) = g1 at *
  generalize str (gden false va.1 va.2 p) = g2 at *
  generalize str (gnum true va.1 va.2 p) = g3 at *
  generalize str (gden true va.1 va.2 p) = g4 at *
  generalize str lo.1 = la at *
  generalize str lo.2 = lb at *
  generalize str hi.1 = ha at *
  generalize str hi.2 = hb at *
  generalize str at_.1 = aa at *
  generalize str at_.2 = ab at *
  generalize str va.1 = va1 at *
  generalize str va.2 = vb at *
  have HR := Lib.hid HR
  have HPT := Lib.hid HPT
  have HRD := Lib.hid HRD
  have hI := CelI.start w la lb ha hb aa ab va1 vb aa ab B 57 25 32
  have hBc : B.cells = #[B] := by obtain ⟨fn, a, b, rfl | rfl⟩ := hB <;> rfl
  have x0 := hI.f.c0
  have x1 := hI.f.c1
  have x2 := hI.f.c2
  have x3 := hI.f.c3
  have x4 := hI.f.c4
  have x5 := hI.f.c5
  have x6 := hI.f.c6
  have x7 := hI.f.c7
  have x8 := hI.f.c8
  have x9 := hI.x.c00
  have x10 := hI.x.c01
  go_enter Tryz.func44, Tryz.ntmps44
  go_wp2_with (first
    | (go_at_call 53; refine (HR.out _ (ht.below hI.b)).mono ?_; rintro e w1 ⟨rfl, hb1⟩; have i1 := hI.below hb1; have z0 := i1.x.c00; have z1 := i1.x.c01; have z2 := i1.f.c4; have z3 := i1.f.c5; have z4 := i1.f.c6; have z5 := i1.f.c7)
    | (go_at_call 22; refine (HPT.out _ (ht.below i1.b)).mono ?_; rintro e w2 ⟨rfl, hb2⟩; have i2 := i1.below hb2)
    | (go_at_call 59; refine (HRD.out _ (ht.below i2.b)).mono ?_; rintro e w3 ⟨rfl, hb3⟩; have i3 := (i2.below hb3).below (belowNew w3 (.cells #[.string g1, .string g2, .string g3, .string g4] 32)); have z0 := i3.o.c0; have z1 := i3.o.c1; have z2 := i3.o.c2; have z3 := i3.o.c3; have z4 := i3.o.f))
  have r5 := i3.o.put (.string g1) (.string g2) (.string g3) (.string g4)
  refine bodyPost_ret_by (v := .tuple #[.agg #[.string g1, .string g2, .string g3, .string g4], .int .i64 0]) (by simp [results, Tryz.f44, go_sem, r5.c0, r5.c1, r5.c2, r5.c3]) rfl ⟨rfl, below_put4 i3.b _ _ _ _ (by omega)⟩

theorem field_one (p : Int) (t : ByteArray) (w : World) : (Instr.field 59 (.agg #[.int .i64 p, .string t]) 1).run Tryz.prog w = .ok (.string t) w := by kernel_rfl

def pMk (k : Nat) (n : Int) : Int × Int := (rnum n ((10 ^ k : Nat) : Int), rden n ((10 ^ k : Nat) : Int))
def pWd (l h : Int × Int) : Int × Int := (rnum (h.1 * l.2 - l.1 * h.2) (h.2 * l.2), rden (h.1 * l.2 - l.1 * h.2) (h.2 * l.2))
def pCl (k p : Nat) (b : Int × Int) : Int × Int := (gnum false (pMk k b.1).1 (pMk k b.1).2 p, gden false (pMk k b.1).1 (pMk k b.1).2 p)
def pCh (k p : Nat) (b : Int × Int) : Int × Int := (gnum true (pMk k b.2).1 (pMk k b.2).2 p, gden true (pMk k b.2).1 (pMk k b.2).2 p)
structure CellOk (k p : Nat) (b : Int × Int) : Prop where
  hk : k ≤ 150
  fb : Fit b
  rn : RndOk (pMk k b.1).1 (pMk k b.1).2 (pMk k b.2).1 (pMk k b.2).2 p
  oi : IsI (pCl k p b).1 (pCl k p b).2 (pCh k p b).1 (pCh k p b).2
  ws : SubOk (pCh k p b).1 (pCh k p b).2 (pCl k p b).1 (pCl k p b).2
  wq : IsQ (pWd (pCl k p b) (pCh k p b))
  tq : IsR 1 ((10 ^ p : Nat) : Int)
  one : cmpQ (pWd (pCl k p b) (pCh k p b)).1 (pWd (pCl k p b) (pCh k p b)).2 1 ((10 ^ p : Nat) : Int) ≤ 0

set_option maxRecDepth 100000 in
set_option maxHeartbeats 20000000 in
theorem cell_in (g : Nat) (caps : Array Value) (lo hi at_ va x bd : Int × Int) (p : Nat) (w : World) (eg : ∀ args w, (callFunc g args).run Tryz.prog w = .ok (.enter g args) w) (h1 : IsQ lo) (h2 : IsQ hi) (hx : ShortQ x.1 x.2) (hp2 : p ≤ 12)
    (hr : rightB lo hi x p = true) (hat : x ≠ at_) (hb : ∀ W, Below w.heap.size w W → Calls Tryz.prog g (#[SV (p + 15), NV x] ++ caps) W (NPost bd W)) (hc : CellOk (p + 15) p bd) (ht : TabOf w) :
    Calls Tryz.prog 44 #[FnV lo hi at_ va (.func (.func g) #[] caps), NV x, .int .i64 p] w (IvPost (pCl (p + 15) p bd).1 (pCl (p + 15) p bd).2 (pCh (p + 15) p bd).1 (pCh (p + 15) p bd).2 w) := by
  have HR := fun W h' => right_in lo hi at_ va x (.func (.func g) #[] caps) p W ⟨_, _, _, .inl rfl⟩ h1 h2 hx (by omega) (by omega) h'
  rw [hr] at HR
  have HAT : ∀ W, Calls Tryz.prog 46 #[.int .i64 ((p : Int) + 15)] W fun e w' => e = .returned (.agg #[.int .i64 ((p : Int) + 15), .string (str ((10 ^ (p + 15) : Nat) : Int))]) ∧ Below W.heap.size W w' := fun W => sat_in (p + 15) (by omega) W
  have HAP : ∀ W, Calls Tryz.prog 46 #[.int .i64 p] W fun e w' => e = .returned (.agg #[.int .i64 p, .string (str ((10 ^ p : Nat) : Int))]) ∧ Below W.heap.size W w' := fun W => sat_in p (by omega) W
  have HBD : ∀ W, Below w.heap.size w W → Calls Tryz.prog g (#[.agg #[.int .i64 ((p : Int) + 15), .string (str ((10 ^ (p + 15) : Nat) : Int))], NV x] ++ caps) W (NPost bd W) := hb
  have HM1 : ∀ W, TabOf W → Calls Tryz.prog 57 #[.string (str bd.1), .string (str ((10 ^ (p + 15) : Nat) : Int))] W (QPost (pMk (p + 15) bd.1) W) := fun W h' => make_in bd.1 ((10 ^ (p + 15) : Nat) : Int) W hc.fb.1 (ten_big hc.hk) (ten_ne _) h'
  have HM2 : ∀ W, TabOf W → Calls Tryz.prog 57 #[.string (str bd.2), .string (str ((10 ^ (p + 15) : Nat) : Int))] W (QPost (pMk (p + 15) bd.2) W) := fun W h' => make_in bd.2 ((10 ^ (p + 15) : Nat) : Int) W hc.fb.2 (ten_big hc.hk) (ten_ne _) h'
  have HRD : ∀ W, TabOf W → Calls Tryz.prog 59 #[IV (pMk (p + 15) bd.1).1 (pMk (p + 15) bd.1).2 (pMk (p + 15) bd.2).1 (pMk (p + 15) bd.2).2, .int .i64 p] W (IvPost (pCl (p + 15) p bd).1 (pCl (p + 15) p bd).2 (pCh (p + 15) p bd).1 (pCh (p + 15) p bd).2 W) := fun W h' => round_in _ _ _ _ p W hc.rn h'
  have HWD : ∀ W, TabOf W → Calls Tryz.prog 60 #[IV (pCl (p + 15) p bd).1 (pCl (p + 15) p bd).2 (pCh (p + 15) p bd).1 (pCh (p + 15) p bd).2] W (QPost (pWd (pCl (p + 15) p bd) (pCh (p + 15) p bd)) W) := fun W h' => width_in _ _ _ _ W hc.oi hc.ws h'
  have HCM := fun W h' => rcmp_in (pWd (pCl (p + 15) p bd) (pCh (p + 15) p bd)).1 (pWd (pCl (p + 15) p bd) (pCh (p + 15) p bd)).2 1 ((10 ^ p : Nat) : Int) W hc.wq hc.tq h'
  have hone : decide (cmpQ (pWd (pCl (p + 15) p bd) (pCh (p + 15) p bd)).1 (pWd (pCl (p + 15) p bd) (pCh (p + 15) p bd)).2 1 ((10 ^ p : Nat) : Int) ≤ 0) = true := decide_eq_true hc.one
  have hne : ¬ (str x.1 = str at_.1 ∧ str x.2 = str at_.2) := fun ⟨e1, e2⟩ => hat (Prod.ext (str_inj e1) (str_inj e2))
  unfold IvPost at HRD ⊢
  unfold QPost at HM1 HM2 HWD
  unfold NPost NV at HBD
  unfold IV at HRD HWD ⊢
  unfold RV at HCM
  rw [str_one] at HCM
  unfold FnV NV at HR ⊢
  clear h1 h2 hx hr hat hb hc
  generalize cmpQ (pWd (pCl (p + 15) p bd) (pCh (p + 15) p bd)).1 (pWd (pCl (p + 15) p bd) (pCh (p + 15) p bd)).2 1 ((10 ^ p : Nat) : Int) = cc at *
  generalize pWd (pCl (p + 15) p bd) (pCh (p + 15) p bd) = WD at *
  generalize pCl (p + 15) p bd = CL at *
  generalize pCh (p + 15) p bd = CH at *
  generalize pMk (p + 15) bd.1 = ML at *
  generalize pMk (p + 15) bd.2 = MH at *
  obtain ⟨WD1, WD2⟩ := WD
  obtain ⟨CL1, CL2⟩ := CL
  obtain ⟨CH1, CH2⟩ := CH
  obtain ⟨ML1, ML2⟩ := ML
  obtain ⟨MH1, MH2⟩ := MH
  dsimp only at *
  generalize str WD1 = WD1 at *
  generalize str WD2 = WD2 at *
  generalize str CL1 = CL1 at *
  generalize str CL2 = CL2 at *
  generalize str CH1 = CH1 at *
  generalize str CH2 = CH2 at *
  generalize str ML1 = ML1 at *
  generalize str ML2 = ML2 at *
  generalize str MH1 = MH1 at *
  generalize str MH2 = MH2 at *
  generalize str bd.1 = bd1 at *
  generalize str bd.2 = bd2 at *
  generalize str ((10 ^ (p + 15) : Nat) : Int) = one at *
  generalize str ((10 ^ p : Nat) : Int) = tp at *
  generalize str x.1 = xa at *
  generalize str x.2 = xb at *
  generalize str lo.1 = la at *
  generalize str lo.2 = lb at *
  generalize str hi.1 = ha at *
  generalize str hi.2 = hb at *
  generalize str at_.1 = aa at *
  generalize str at_.2 = ab at *
  generalize str va.1 = va1 at *
  generalize str va.2 = vb at *
  have HR := Lib.hid HR
  have HAT := Lib.hid HAT
  have HAP := Lib.hid HAP
  have HBD := Lib.hid HBD
  have HM1 := Lib.hid HM1
  have HM2 := Lib.hid HM2
  have HRD := Lib.hid HRD
  have HWD := Lib.hid HWD
  have HCM := Lib.hid HCM
  have hI := CelI.start w la lb ha hb aa ab va1 vb xa xb (.func (.func g) #[] caps) 57 25 32
  have x0 := hI.f.c0
  have x1 := hI.f.c1
  have x2 := hI.f.c2
  have x3 := hI.f.c3
  have x4 := hI.f.c4
  have x5 := hI.f.c5
  have x6 := hI.f.c6
  have x7 := hI.f.c7
  have x8 := hI.f.c8
  have x9 := hI.x.c00
  have x10 := hI.x.c01
  have hcs : ¬ xa.toList = aa.toList ∨ (xa.toList = aa.toList ∧ ¬ xb.toList = ab.toList) := by
    by_cases e1 : xa.toList = aa.toList
    · refine .inr ⟨e1, fun e2 => hne ⟨?_, ?_⟩⟩
      · rw [ByteArray.toList_eq, ByteArray.toList_eq] at e1; exact ByteArray.ext (Array.toList_inj.1 e1)
      · rw [ByteArray.toList_eq, ByteArray.toList_eq] at e2; exact ByteArray.ext (Array.toList_inj.1 e2)
    · exact .inl e1
  clear hne
  have hfd : ∀ w, (Instr.field 59 (.agg #[.int .i64 p, .string tp]) 1).run Tryz.prog w = .ok (.string tp) w := fun w => field_one _ _ w
  have hp0 : (0 : Int) ≤ p := by omega
  have hp15 : (p : Int) + 15 ≤ 27 := by omega
  rcases hcs with hq | ⟨hq, hq2⟩
  all_goals
    go_enter Tryz.func44, Tryz.ntmps44
    go_wp2_with (first
      | (go_at_call 53; refine (HR.out _ (ht.below hI.b)).mono ?_; rintro e w1 ⟨rfl, hb1⟩; have i1 := hI.below hb1; have z0 := i1.x.c00; have z1 := i1.x.c01; have z2 := i1.f.c4; have z3 := i1.f.c5; have z4 := i1.f.c6; have z5 := i1.f.c7))
    have bn1 := belowNew w1 (.cells #[.int .i64 15, .int .i64 40] 3)
    have i2 := i1.below bn1
    have s0 := cellAt w1 #[.int .i64 15, .int .i64 40] 3 0 _ rfl
    clear hI i1 z0 z1 z2 z3 z4 z5 x0 x1 x2 x3 x4 x5 x6 x7 x8 x9 x10 HR hb1 hq
    go_loopw [44] (fun i W => i = .int .i64 0 ∧ CelI w la lb ha hb aa ab va1 vb xa xb (.func (.func g) #[] caps) W ∧ W.cell? ⟨w1.heap.size, 0, none⟩ = some (.int .i64 15)) (fun _ _ => 0)
    case atStart => exact ⟨rfl, i2, s0⟩
    case round =>
      obtain ⟨rfl, j0, s0⟩ := hrel
      clear i2
      go_wp2_with (first
        | (go_at_call 46; refine (HAT.out _).mono ?_; rintro e w2 ⟨rfl, hb2⟩; have bn2 := belowNew w2 (.cells #[.int .i64 ((p : Int) + 15), .string one] 59); have j2 := (j0.below hb2).below bn2; have sc2 := RC.new w2 59 (.int .i64 ((p : Int) + 15)) (.string one); have z0 := j2.f.c8; have z1 := j2.x.c00; have z2 := j2.x.c01; clear HAT)
        | (refine (show Calls _ g _ _ _ from HBD.out _ j2.b).mono ?_; rintro e w3 ⟨rfl, hb3⟩; have bn3 := belowNew w3 (.cells #[.string bd1, .string bd2] 61); have j3 := (j2.below hb3).below bn3; have sc3 := (sc2.below hb3).below bn3; have n3 := RC.new w3 61 (.string bd1) (.string bd2); have z0 := sc3.c01; have z1 := n3.c00; have z2 := n3.c01)
        | (have HA := HM1; go_at_call 57; refine (HA.out _ (ht.below j3.b)).mono ?_; clear HM1 HA; rintro e w4 ⟨rfl, hb4⟩; have bn4 := belowNew w4 (.cells #[.string ML1, .string ML2] 25); have j4 := (j3.below hb4).below bn4; have sc4 := (sc3.below hb4).below bn4; have n4 := (n3.below hb4).below bn4; have l4 := RC.new w4 25 (.string ML1) (.string ML2); have z0 := sc4.c01; have z2 := n4.c01)
        | (go_at_call 57; refine (HM2.out _ (ht.below j4.b)).mono ?_; rintro e w5 ⟨rfl, hb5⟩; have bn5 := belowNew w5 (.cells #[.string MH1, .string MH2] 25); have j5 := (j4.below hb5).below bn5; have l5 := (l4.below hb5).below bn5; have h5 := RC.new w5 25 (.string MH1) (.string MH2); have z0 := l5.c00; have z1 := l5.c01; have z2 := h5.c00; have z3 := h5.c01)
        | (go_at_call 59; refine (HRD.out _ (ht.below j5.b)).mono ?_; rintro e w6 ⟨rfl, hb6⟩; have bn6 := belowNew w6 (.cells #[.string CL1, .string CL2, .string CH1, .string CH2] 32); have j6 := (j5.below hb6).below bn6; have o6 := R4.new w6 32 (.string CL1) (.string CL2) (.string CH1) (.string CH2); have z0 := o6.c0; have z1 := o6.c1; have z2 := o6.c2; have z3 := o6.c3)
        | (go_at_call 60; refine (HWD.out _ (ht.below j6.b)).mono ?_; rintro e w7 ⟨rfl, hb7⟩; have bn7 := belowNew w7 (.cells #[.string WD1, .string WD2] 25); have j7 := (j6.below hb7).below bn7; have o7 := (o6.below hb7).below bn7; have d7 := RC.new w7 25 (.string WD1) (.string WD2)))
      have m0 := j7.drew
      have o0 := o7.drew
      have d0 := d7.drew
      clear j0 j2 j3 j4 j5 j6 j7 sc2 sc3 sc4 n3 n4 l4 l5 h5 o6 o7 d7 bn1 bn2 bn3 bn4 bn5 bn6 bn7 hb2 hb3 hb4 hb5 hb6 hb7 s0 HBD HM2 HRD HWD
      go_region_held3 (fun W => W.cell? ⟨w7.heap.size, 0, none⟩ = some (.string WD1) ∧ W.cell? ⟨w7.heap.size, 1, none⟩ = some (.string WD2))
        (first | with_reducible exact ⟨d0.c00, d0.c01⟩ | with_reducible exact ⟨d1.c00, d1.c01⟩ | with_reducible exact ⟨d2.c00, d2.c01⟩ | with_reducible exact ⟨d3.c00, d3.c01⟩) (first
        | (go_at_call 46; refine (HAP.out (World.drew _)).mono ?_; rintro e w8 ⟨rfl, hb8⟩; have m1 := m0.below hb8; have o1 := o0.below hb8; have d1 := d0.below hb8)
        | (go_at_call 37; refine (ratio_in _ _ _).mono ?_; rintro e w9 ⟨rfl, hb9⟩; have m2 := m1.below hb9; have o2 := o1.below hb9; have d2 := d1.below hb9)
        | (go_at_call 17; refine (HCM.out _ (ht.below m2.b)).mono ?_; rintro e w10 ⟨rfl, hb10⟩; have m3 := m2.below hb10; have o3 := o2.below hb10; have d3 := d2.below hb10))
      have z0 := o3.c0
      have z1 := o3.c1
      have z2 := o3.c2
      have z3 := o3.c3
      have y0 := m3.o.c0
      have y1 := m3.o.c1
      have y2 := m3.o.c2
      have y3 := m3.o.c3
      have y4 := m3.o.f
      go_wp2
      have r5 := m3.o.put (.string CL1) (.string CL2) (.string CH1) (.string CH2)
      refine bodyPost_ret_by (v := .tuple #[.agg #[.string CL1, .string CL2, .string CH1, .string CH2], .int .i64 0]) (by simp [results, Tryz.f44, go_sem, r5.c0, r5.c1, r5.c2, r5.c3]) rfl ⟨rfl, below_put4 m3.b _ _ _ _ (by omega)⟩
end Go.Proofs.YtppbhnhmaocdnaaGreatDoor
namespace Go.Proofs.YtppbhnhmaocdnaaGreatDoor
open Go.RowKit Go.Shelf

structure SxI (w : World) (one : ByteArray) (k : Int) (n' d' : ByteArray) (W : World) : Prop where
  s : RC w.heap.size W (.int .i64 k) (.string one)
  x : RC (w.heap.size + 1) W (.string n') (.string d')
  o : RC (w.heap.size + 1 + 1) W (.string ⟨#[]⟩) (.string ⟨#[]⟩)
  b : Below w.heap.size w W
theorem SxI.below {w : World} {one : ByteArray} {k : Int} {n' d' : ByteArray} {W W' : World} (h : SxI w one k n' d' W) (hb : Below W.heap.size W W') : SxI w one k n' d' W' := ⟨h.s.below hb, h.x.below hb, h.o.below hb, h.b.trans (hb.mono h.b.size)⟩
theorem SxI.drew {w : World} {one : ByteArray} {k : Int} {n' d' : ByteArray} {W : World} (h : SxI w one k n' d' W) : SxI w one k n' d' W.drew := h.below (Below.refl _ W).drew
theorem SxI.start (w : World) (one : ByteArray) (k : Int) (n' d' : ByteArray) (T U V : TypeId) : SxI w one k n' d' (((w.alloc (.cells #[.int .i64 k, .string one] T)).alloc (.cells #[.string n', .string d'] U)).alloc (.cells #[.string ⟨#[]⟩, .string ⟨#[]⟩] V)) := by
  obtain ⟨W0, hW0, k0, t0, o0, b0⟩ := boxes3 w T U V (.int .i64 k) (.string one) (.string n') (.string d') (.string ⟨#[]⟩) (.string ⟨#[]⟩)
  rw [← hW0]
  exact ⟨k0, t0, o0, b0⟩

def pExpB (k : Nat) (x : Int × Int) (H M : Nat) : Int × Int :=
  if x.1 < 0 then pOver k (pWhole k 1) (pExp k (pOf k (x.1.natAbs : Int) x.2) H M) else pExp k (pOf k (x.1.natAbs : Int) x.2) H M
structure ExpBOk (k : Nat) (x : Int × Int) (H M : Nat) : Prop where
  of : OfOk k (x.1.natAbs : Int) x.2
  ex : ExpOk k (pOf k (x.1.natAbs : Int) x.2) H M
  one : Fit (pWhole k 1)
  ov : x.1 < 0 → OverOk k (pWhole k 1) (pExp k (pOf k (x.1.natAbs : Int) x.2) H M)

set_option maxRecDepth 100000 in
set_option maxHeartbeats 8000000 in
theorem expB_in (k : Nat) (x : Int × Int) (H M : Nat) (w : World) (h : ExpBOk k x H M) (ht : TabOf w) :
    Calls Tryz.prog 38 #[SV k, NV x] w (NPost (pExpB k x H M) w) := by
  have HOF := fun W h' => ofP (w := W) h.of h'
  have HEX := fun W h' => exp_in k (pOf k (x.1.natAbs : Int) x.2) H M W h.ex h'
  have HCP := fun W => cutp_in x.1 W
  have HWH := fun W h' => wholeP (k := k) (n := 1) (w := W) h.of.hk (by decide) h.one h'
  by_cases hneg : x.1 < 0
  · have HOV := fun W h' => overP (w := W) (h.ov hneg) h'
    have e : pExpB k x H M = pOver k (pWhole k 1) (pExp k (pOf k (x.1.natAbs : Int) x.2) H M) := by unfold pExpB; rw [if_pos hneg]
    rw [e]
    rw [decide_eq_true hneg] at HCP
    unfold NPost NV SV RV at HOF
    unfold NPost NV SV at HEX HWH HOV
    unfold NPost NV SV
    clear h hneg e
    generalize pOver k (pWhole k 1) (pExp k (pOf k (x.1.natAbs : Int) x.2) H M) = RR at *
    generalize pExp k (pOf k (x.1.natAbs : Int) x.2) H M = EX at *
    generalize pOf k (x.1.natAbs : Int) x.2 = OF at *
    generalize pWhole k 1 = WH at *
    obtain ⟨RR1, RR2⟩ := RR
    obtain ⟨EX1, EX2⟩ := EX
    obtain ⟨OF1, OF2⟩ := OF
    obtain ⟨WH1, WH2⟩ := WH
    dsimp only at *
    generalize str RR1 = RR1 at *
    generalize str RR2 = RR2 at *
    generalize str EX1 = EX1 at *
    generalize str EX2 = EX2 at *
    generalize str OF1 = OF1 at *
    generalize str OF2 = OF2 at *
    generalize str WH1 = WH1 at *
    generalize str WH2 = WH2 at *
    generalize str ((10 ^ k : Nat) : Int) = one at *
    generalize str (x.1.natAbs : Int) = na at *
    generalize str x.1 = n' at *
    generalize str x.2 = d' at *
    have HOF := Lib.hid HOF
    have HEX := Lib.hid HEX
    have HCP := Lib.hid HCP
    have HWH := Lib.hid HWH
    have HOV := Lib.hid HOV
    have hI := SxI.start w one k n' d' 59 25 61
    have x2 := hI.x.c00
    have x3 := hI.x.c01
    have j0 := hI.drew
    have n0 : w.heap.size + 1 + 1 ≠ w.heap.size := by omega
    have n1 : w.heap.size + 1 + 1 ≠ w.heap.size + 1 := by omega
    go_enter Tryz.func38, Tryz.ntmps38
    go_wp2_with (first
      | (go_at_call 39; refine (HCP.out _).mono ?_; rintro e w2 ⟨rfl, rfl⟩))
    go_region_held3 (fun W => W.cell? ⟨w.heap.size, 0, none⟩ = some (.int .i64 (k : Int)) ∧ W.cell? ⟨w.heap.size, 1, none⟩ = some (.string one) ∧ W.cell? ⟨w.heap.size + 1, 1, none⟩ = some (.string d'))
      (first
        | with_reducible exact ⟨j0.s.c00, j0.s.c01, j0.x.c01⟩
        | with_reducible exact ⟨j1.s.c00, j1.s.c01, j1.x.c01⟩
        | with_reducible exact ⟨j2.s.c00, j2.s.c01, j2.x.c01⟩
        | with_reducible exact ⟨j3.s.c00, j3.s.c01, j3.x.c01⟩
        | with_reducible exact ⟨j4.s.c00, j4.s.c01, j4.x.c01⟩
        | with_reducible exact ⟨j5.s.c00, j5.s.c01, j5.x.c01⟩
        | exact ⟨cell_put2 j5.s.c00 n0 _ _, cell_put2 j5.s.c01 n0 _ _, cell_put2 j5.x.c01 n1 _ _⟩) (first
      | (go_at_call 41; refine (HWH.out (World.drew _) (ht.below j0.b)).mono ?_; rintro e w3 ⟨rfl, hb3⟩; have j1 := j0.below hb3)
      | (go_at_call 37; refine (ratio_in _ _ _).mono ?_; rintro e w4 ⟨rfl, hb4⟩; have j2 := j1.below hb4)
      | (go_at_call 43; refine (HOF.out _ (ht.below j2.b)).mono ?_; rintro e w5 ⟨rfl, hb5⟩; have j3 := j2.below hb5)
      | (go_at_call 42; refine (HEX.out _ (ht.below j3.b)).mono ?_; rintro e w6 ⟨rfl, hb6⟩; have j4 := j3.below hb6)
      | (go_at_call 40; refine (HOV.out _ (ht.below j4.b)).mono ?_; rintro e w7 ⟨rfl, hb7⟩; have j5 := j4.below hb7; have z0 := j5.o.c00; have z1 := j5.o.c01; have z2 := j5.o.f0))
    all_goals
      go_wp2
      have r5 := j5.o.put (.string RR1) (.string RR2)
      refine bodyPost_ret_by (v := .agg #[.string RR1, .string RR2]) (by simp [results, Tryz.f38, go_sem, r5.c00, r5.c01]) rfl ⟨rfl, below_put2 j5.b _ _ (by omega)⟩
  · have e : pExpB k x H M = pExp k (pOf k (x.1.natAbs : Int) x.2) H M := by unfold pExpB; rw [if_neg hneg]
    rw [e]
    rw [decide_eq_false hneg] at HCP
    have hnn : (x.1.natAbs : Int) = x.1 := by omega
    rw [hnn] at HOF HEX HCP ⊢
    unfold NPost NV SV RV at HOF
    unfold NPost NV SV at HEX
    unfold NPost NV SV
    clear h hneg e hnn HWH
    generalize pExp k (pOf k x.1 x.2) H M = EX at *
    generalize pOf k x.1 x.2 = OF at *
    obtain ⟨RR1, RR2⟩ := EX
    obtain ⟨OF1, OF2⟩ := OF
    dsimp only at *
    generalize str RR1 = RR1 at *
    generalize str RR2 = RR2 at *
    generalize str OF1 = OF1 at *
    generalize str OF2 = OF2 at *
    generalize str ((10 ^ k : Nat) : Int) = one at *
    generalize str x.1 = n' at *
    generalize str x.2 = d' at *
    have HOF := Lib.hid HOF
    have HEX := Lib.hid HEX
    have HCP := Lib.hid HCP
    have hI := SxI.start w one k n' d' 59 25 61
    have x2 := hI.x.c00
    have x3 := hI.x.c01
    have j0 := hI.drew
    have n0 : w.heap.size + 1 + 1 ≠ w.heap.size := by omega
    have n1 : w.heap.size + 1 + 1 ≠ w.heap.size + 1 := by omega
    go_enter Tryz.func38, Tryz.ntmps38
    go_wp2_with (first
      | (go_at_call 39; refine (HCP.out _).mono ?_; rintro e w2 ⟨rfl, rfl⟩))
    go_region_held3 (fun W => W.cell? ⟨w.heap.size, 0, none⟩ = some (.int .i64 (k : Int)) ∧ W.cell? ⟨w.heap.size, 1, none⟩ = some (.string one) ∧ W.cell? ⟨w.heap.size + 1, 0, none⟩ = some (.string n') ∧ W.cell? ⟨w.heap.size + 1, 1, none⟩ = some (.string d'))
      (first
        | with_reducible exact ⟨j0.s.c00, j0.s.c01, j0.x.c00, j0.x.c01⟩
        | with_reducible exact ⟨j1.s.c00, j1.s.c01, j1.x.c00, j1.x.c01⟩
        | with_reducible exact ⟨j2.s.c00, j2.s.c01, j2.x.c00, j2.x.c01⟩
        | exact ⟨cell_put2 j2.s.c00 n0 _ _, cell_put2 j2.s.c01 n0 _ _, cell_put2 j2.x.c00 n1 _ _, cell_put2 j2.x.c01 n1 _ _⟩) (first
      | (go_at_call 43; refine (HOF.out (World.drew _) (ht.below j0.b)).mono ?_; rintro e w5 ⟨rfl, hb5⟩; have j1 := j0.below hb5)
      | (go_at_call 42; refine (HEX.out _ (ht.below j1.b)).mono ?_; rintro e w6 ⟨rfl, hb6⟩; have j2 := j1.below hb6; have z0 := j2.o.c00; have z1 := j2.o.c01; have z2 := j2.o.f0))
    all_goals
      go_wp2
      have r5 := j2.o.put (.string RR1) (.string RR2)
      refine bodyPost_ret_by (v := .agg #[.string RR1, .string RR2]) (by simp [results, Tryz.f38, go_sem, r5.c00, r5.c01]) rfl ⟨rfl, below_put2 j2.b _ _ (by omega)⟩
theorem ent_expB : ∀ args w, (callFunc 38 args).run Tryz.prog w = .ok (.enter 38 args) w := enters_of Tryz.func38 (by kernel_rfl) rfl

def AnsPost (c1 c2 c3 c4 : ByteArray) (er : Int) (w : World) (e : Ending) (w' : World) : Prop := e = .returned (.tuple #[.agg #[.string c1, .string c2, .string c3, .string c4], .int .i64 er]) ∧ Below w.heap.size w w'
theorem str_n8 : str (-8) = ⟨#[45, 56]⟩ := by
  rw [str, itoa_neg (by omega)]
  have : Lib.decDigits 8 = [56] := by decide +kernel
  show (⟨(45 :: Lib.decDigits 8).toArray⟩ : ByteArray) = _
  rw [this]
theorem str_n20 : str (-20) = ⟨#[45, 50, 48]⟩ := by
  rw [str, itoa_neg (by omega)]
  have : Lib.decDigits 20 = [50, 48] := by decide +kernel
  show (⟨(45 :: Lib.decDigits 20).toArray⟩ : ByteArray) = _
  rw [this]
theorem str_20 : str 20 = ⟨#[50, 48]⟩ := by
  have : Lib.decDigits 20 = [50, 48] := by decide +kernel
  rw [str, show (20 : Int) = ((20 : Nat) : Int) from rfl, itoa_nat, this]
theorem str_100 : str 100 = ⟨#[49, 48, 48]⟩ := by
  have : Lib.decDigits 100 = [49, 48, 48] := by decide +kernel
  rw [str, show (100 : Int) = ((100 : Nat) : Int) from rfl, itoa_nat, this]

end Go.Proofs.YtppbhnhmaocdnaaGreatDoor
namespace Go.Proofs.YtppbhnhmaocdnaaGreatDoor
open Go.RowKit Go.Shelf

set_option maxRecDepth 100000 in
set_option maxHeartbeats 8000000 in
theorem Exp_of (x : Int × Int) (p : Int) (c1 c2 c3 c4 : ByteArray) (er : Int) (w : World)
    (hc : ∀ W, Below w.heap.size w W → Calls Tryz.prog 44 #[FnV (-20, 1) (20, 1) (0, 1) (1, 1) (.func (.func 38) #[] #[]), NV x, .int .i64 p] W (AnsPost c1 c2 c3 c4 er W)) :
    Calls Tryz.prog 13 #[NV x, .int .i64 p] w (AnsPost c1 c2 c3 c4 er w) := by
  unfold AnsPost FnV NV at hc
  unfold AnsPost NV
  dsimp only at hc
  rw [str_n20, str_20, str_zero, str_one] at hc
  generalize str x.1 = xa at *
  generalize str x.2 = xb at *
  have HC := Lib.hid hc
  clear hc
  have bn := belowNew w (.cells #[.string xa, .string xb] 25)
  have bn2 := belowNew (w.alloc (.cells #[.string xa, .string xb] 25)) (.cells #[.string ⟨#[]⟩, .string ⟨#[]⟩, .string ⟨#[]⟩, .string ⟨#[]⟩] 32)
  have x0 := (RC.new w 25 (.string xa) (.string xb)).below bn2
  have o0 := R4.new (w.alloc (.cells #[.string xa, .string xb] 25)) 32 (.string ⟨#[]⟩) (.string ⟨#[]⟩) (.string ⟨#[]⟩) (.string ⟨#[]⟩)
  rw [sizeNew] at o0
  have b0 := bn.trans (bn2.mono bn.size)
  go_enter Tryz.func13, Tryz.ntmps13
  go_wp2_with (first
    | (have hchk := b0; clear hchk; go_at_call 37; refine (ratio_in _ _ _).mono ?_; rintro e w1 ⟨rfl, hb1⟩; have b1 := b0.trans (hb1.mono b0.size); have x1 := x0.below hb1; have o1 := o0.below hb1; clear hb1 b0 x0 o0)
    | (have hchk := b1; clear hchk; go_at_call 37; refine (ratio_in _ _ _).mono ?_; rintro e w2 ⟨rfl, hb2⟩; have b2 := b1.trans (hb2.mono b1.size); have x2 := x1.below hb2; have o2 := o1.below hb2; clear hb2 b1 x1 o1)
    | (have hchk := b2; clear hchk; go_at_call 37; refine (ratio_in _ _ _).mono ?_; rintro e w3 ⟨rfl, hb3⟩; have b3 := b2.trans (hb3.mono b2.size); have x3 := x2.below hb3; have o3 := o2.below hb3; clear hb3 b2 x2 o2)
    | (have hchk := b3; clear hchk; go_at_call 37; refine (ratio_in _ _ _).mono ?_; rintro e w4 ⟨rfl, hb4⟩; have b4 := b3.trans (hb4.mono b3.size); have bf := belowNew w4 (.cells #[.string ⟨#[45, 50, 48]⟩, .string ⟨#[49]⟩, .string ⟨#[50, 48]⟩, .string ⟨#[49]⟩, .string ⟨#[48]⟩, .string ⟨#[49]⟩, .string ⟨#[49]⟩, .string ⟨#[49]⟩, .func (.func 38) #[] #[]] 57); have x4 := (x3.below hb4).below bf; have o4 := (o3.below hb4).below bf; have b5 := b4.trans (bf.mono b4.size); clear hb4 b3 x3 o3 b4 bf; have y0 := x4.c00; have y1 := x4.c01)
    | (go_at_call 44; refine (HC.out _ b5).mono ?_; rintro e w5 ⟨rfl, hb5⟩; have o5 := o4.below hb5; have z0 := o5.c0; have z1 := o5.c1; have z2 := o5.c2; have z3 := o5.c3; have z4 := o5.f; have b6 := b5.trans (hb5.mono b5.size)))
  have r5 := o5.put (.string c1) (.string c2) (.string c3) (.string c4)
  refine bodyPost_ret_by (v := .tuple #[.agg #[.string c1, .string c2, .string c3, .string c4], .int .i64 er]) (by simp [results, Tryz.f13, go_sem, r5.c0, r5.c1, r5.c2, r5.c3]) rfl ⟨rfl, below_put4 b6 _ _ _ _ (by omega)⟩
end Go.Proofs.YtppbhnhmaocdnaaGreatDoor
namespace Go.Proofs.YtppbhnhmaocdnaaGreatDoor
open Go.RowKit Go.Shelf

theorem str_ten13 : str ((10 ^ 13 : Nat) : Int) = ⟨#[49, 48, 48, 48, 48, 48, 48, 48, 48, 48, 48, 48, 48, 48]⟩ := by rw [str_ten]; rfl
theorem sat13 (w : World) : Calls Tryz.prog 46 #[.int .i64 13] w fun e w' => e = .returned (.agg #[.int .i64 13, .string ⟨#[49, 48, 48, 48, 48, 48, 48, 48, 48, 48, 48, 48, 48, 48]⟩]) ∧ Below w.heap.size w w' := by
  have h := sat_in 13 (by decide) w
  unfold SV at h
  rw [str_ten13] at h
  exact h

set_option maxRecDepth 100000 in
set_option maxHeartbeats 8000000 in
theorem Log_of (x : Int × Int) (p : Int) (c1 c2 c3 c4 : ByteArray) (er : Int) (w : World)
    (hc : ∀ W R, Below w.heap.size w W → R < W.heap.size → R9 R W (.string ⟨#[49]⟩) (.string (str ((10 ^ 13 : Nat) : Int))) (.string (str ((10 ^ 13 : Nat) : Int))) (.string ⟨#[49]⟩) (.string ⟨#[49]⟩) (.string ⟨#[49]⟩) (.string ⟨#[48]⟩) (.string ⟨#[49]⟩) (.func (.func 47) #[] #[.pointer (some ⟨R, 0, none⟩)]) → Calls Tryz.prog 44 #[FnV (1, ((10 ^ 13 : Nat) : Int)) (((10 ^ 13 : Nat) : Int), 1) (1, 1) (0, 1) (.func (.func 47) #[] #[.pointer (some ⟨R, 0, none⟩)]), NV x, .int .i64 p] W (AnsPost c1 c2 c3 c4 er W)) :
    Calls Tryz.prog 16 #[NV x, .int .i64 p] w (AnsPost c1 c2 c3 c4 er w) := by
  unfold AnsPost FnV NV at hc
  unfold AnsPost NV
  dsimp only at hc
  have hs13 := str_ten13
  have HAT := Lib.hid sat13
  have hfd : ∀ p w, (Instr.field 59 (.agg #[.int .i64 p, .string ⟨#[49, 48, 48, 48, 48, 48, 48, 48, 48, 48, 48, 48, 48, 48]⟩]) 1).run Tryz.prog w = .ok (.string ⟨#[49, 48, 48, 48, 48, 48, 48, 48, 48, 48, 48, 48, 48, 48]⟩) w := fun p w => field_one _ _ w
  rw [hs13, str_zero, str_one] at hc
  generalize (⟨#[49, 48, 48, 48, 48, 48, 48, 48, 48, 48, 48, 48, 48, 48]⟩ : ByteArray) = ten at *
  clear hs13
  generalize str x.1 = xa at *
  generalize str x.2 = xb at *
  have HC := Lib.hid hc
  clear hc
  have bn := belowNew w (.cells #[.string xa, .string xb] 25)
  have bn2 := belowNew (w.alloc (.cells #[.string xa, .string xb] 25)) (.cells #[.string ⟨#[]⟩, .string ⟨#[]⟩, .string ⟨#[]⟩, .string ⟨#[]⟩] 32)
  have x0 := (RC.new w 25 (.string xa) (.string xb)).below bn2
  have o0 := R4.new (w.alloc (.cells #[.string xa, .string xb] 25)) 32 (.string ⟨#[]⟩) (.string ⟨#[]⟩) (.string ⟨#[]⟩) (.string ⟨#[]⟩)
  rw [sizeNew] at o0
  have b0 := bn.trans (bn2.mono bn.size)
  clear bn bn2
  go_enter Tryz.func16, Tryz.ntmps16
  go_wp2_with (first
    | (have hchk := b0; clear hchk; go_at_call 46; refine (HAT.out _).mono ?_; rintro e w1 ⟨rfl, hb1⟩; have b1 := b0.trans (hb1.mono b0.size); have x1 := x0.below hb1; have o1 := o0.below hb1; clear hb1 b0 x0 o0)
    | (have hchk := b1; clear hchk; go_at_call 37; refine (ratio_in _ _ _).mono ?_; rintro e w2 ⟨rfl, hb2⟩; have b2 := b1.trans (hb2.mono b1.size); have x2 := x1.below hb2; have o2 := o1.below hb2; clear hb2 b1 x1 o1)
    | (have hchk := b2; clear hchk; go_at_call 46; refine (HAT.out _).mono ?_; rintro e w3 ⟨rfl, hb3⟩; have b3 := b2.trans (hb3.mono b2.size); have x3 := x2.below hb3; have o3 := o2.below hb3; clear hb3 b2 x2 o2)
    | (have hchk := b3; clear hchk; go_at_call 37; refine (ratio_in _ _ _).mono ?_; rintro e w4 ⟨rfl, hb4⟩; have b4 := b3.trans (hb4.mono b3.size); have x4 := x3.below hb4; have o4 := o3.below hb4; clear hb4 b3 x3 o3)
    | (have hchk := b4; clear hchk; go_at_call 37; refine (ratio_in _ _ _).mono ?_; rintro e w5 ⟨rfl, hb5⟩; have b5 := b4.trans (hb5.mono b4.size); have x5 := x4.below hb5; have o5 := o4.below hb5; clear hb5 b4 x4 o4)
    | (have hchk := b5; clear hchk; go_at_call 37; refine (ratio_in _ _ _).mono ?_; rintro e w6 ⟨rfl, hb6⟩; have b6 := b5.trans (hb6.mono b5.size); have bf := belowNew w6 (.cells #[.string ⟨#[49]⟩, .string ten, .string ten, .string ⟨#[49]⟩, .string ⟨#[49]⟩, .string ⟨#[49]⟩, .string ⟨#[48]⟩, .string ⟨#[49]⟩, .func (.func 47) #[] #[.pointer (some ⟨w6.heap.size, 0, none⟩)]] 57); have x6 := (x5.below hb6).below bf; have o6 := (o5.below hb6).below bf; have b7 := b6.trans (bf.mono b6.size); clear hb6 b5 x5 o5 b6 bf; have y0 := x6.c00; have y1 := x6.c01)
    | (have kf := R9.new w6 57 (.string ⟨#[49]⟩) (.string ten) (.string ten) (.string ⟨#[49]⟩) (.string ⟨#[49]⟩) (.string ⟨#[49]⟩) (.string ⟨#[48]⟩) (.string ⟨#[49]⟩) (.func (.func 47) #[] #[.pointer (some ⟨w6.heap.size, 0, none⟩)]); go_at_call 44; refine (HC.out _ _ b7 (by rw [sizeNew]; exact Nat.lt_succ_self _) kf).mono ?_; rintro e w8 ⟨rfl, hb8⟩; have o8 := o6.below hb8; have z0 := o8.c0; have z1 := o8.c1; have z2 := o8.c2; have z3 := o8.c3; have z4 := o8.f; have b8 := b7.trans (hb8.mono b7.size)))
  have r5 := o8.put (.string c1) (.string c2) (.string c3) (.string c4)
  refine bodyPost_ret_by (v := .tuple #[.agg #[.string c1, .string c2, .string c3, .string c4], .int .i64 er]) (by simp [results, Tryz.f16, go_sem, r5.c0, r5.c1, r5.c2, r5.c3]) rfl ⟨rfl, below_put4 b8 _ _ _ _ (by omega)⟩
end Go.Proofs.YtppbhnhmaocdnaaGreatDoor
namespace Go.Proofs.YtppbhnhmaocdnaaGreatDoor
open Go.RowKit Go.Shelf

noncomputable def logBRegOps : Array Oper := ((Tryz.f47.body.bind (findRegionC · 2)).getD #[])
set_option maxRecDepth 100000 in
set_option maxHeartbeats 8000000 in
theorem logBReg (k : Int) (one n1 d1 q1 q2 : ByteArray) (bs bx : Nat) {u0 u1 u2 u5 u6 u7 u8 u9 u10 u11 u12 u13 u14 u15 u16 u17 u18 u19 u20 u21 u22 u23 u24 u25 u26 u27 u28 : Value} (V : World) (Q : Exit → Act → World → Prop)
    (h_bs : RC bs V (.int .i64 k) (.string one)) (h_bx : RC bx V (.string n1) (.string d1))
    (H0 : GivesC 37 #[.string d1, .string n1] (.agg #[.string d1, .string n1]) V) (H1 : GivesC 48 #[.agg #[.int .i64 k, .string one], .agg #[.string d1, .string n1]] (.agg #[.string q1, .string q2]) V)
    (hP : ∀ (c : List PanicEntry) (a : Act) (d : Option Tmp) (v : Value) (W : World), Q (.panic c) (a.put d v) W → Q (.panic c) a W)
    (hQ : ∀ (To : Nat) (F : World), RC To F (.string q1) (.string q2) → V.heap.size ≤ To → Below V.heap.size V F → Q .normal { tmps := #[u0, u1, u2, .pointer (some ⟨bs, 0, none⟩), .pointer (some ⟨bx, 0, none⟩), u5, .pointer (some ⟨To, 0, none⟩), u7, u8, u9, u10, u11, .agg #[.int .i64 k, .string one], .pointer (some ⟨bx, 1, none⟩), .string d1, .pointer (some ⟨bx, 0, none⟩), .string n1, .agg #[.string d1, .string n1], .agg #[.string q1, .string q2], u19, u20, u21, u22, u23, u24, u25, u26, u27, u28], defers := [] } F) :
    (Code.region 2 logBRegOps true).wp Tryz.prog Q { tmps := #[u0, u1, u2, .pointer (some ⟨bs, 0, none⟩), .pointer (some ⟨bx, 0, none⟩), u5, u6, u7, u8, u9, u10, u11, u12, u13, u14, u15, u16, u17, u18, u19, u20, u21, u22, u23, u24, u25, u26, u27, u28], defers := [] } V := by
  have hSof : ∀ W, Below V.heap.size V W → (W.cell? ⟨bs, 0, none⟩ = some (.int .i64 k) ∧ W.cell? ⟨bs, 1, none⟩ = some (.string one) ∧ W.cell? ⟨bx, 0, none⟩ = some (.string n1) ∧ W.cell? ⟨bx, 1, none⟩ = some (.string d1)) := fun W hb => by
    have k_bs := h_bs.belowB hb (ltOf h_bs.c00)
    have k_bx := h_bx.belowB hb (ltOf h_bx.c00)
    exact ⟨k_bs.c00, k_bs.c01, k_bx.c00, k_bx.c01⟩
  have HQ := Lib.hid hQ
  clear hQ
  refine wp_region_held_drew (S := fun W => W.cell? ⟨bs, 0, none⟩ = some (.int .i64 k) ∧ W.cell? ⟨bs, 1, none⟩ = some (.string one) ∧ W.cell? ⟨bx, 0, none⟩ = some (.string n1) ∧ W.cell? ⟨bx, 1, none⟩ = some (.string d1)) (by kernel_rfl) (hSof _ (Below.refl _ V).drew) (fun hHeld => ?_)
  have lv : Below V.heap.size V V.drew := (Below.refl _ V).drew
  generalize V.drew = X at *
  refine wpAnyH_take (i := 0) (oi := ⟨some 12, _, _, _, _, _⟩) (v := .agg #[.int .i64 k, .string one]) rfl (by kernel_rfl) (by kernel_rfl) (by kernel_rfl) (fun _ _ _ h => hP _ _ _ _ _ h) (Or.inl ⟨rfl, fun w' hSw => by (try dsimp only at hSw); go_simp; (try with_reducible rfl)⟩) (hSof _ lv) ?_
  try simp only [Act.put, qb25a, qb25z, qb25s]
  refine wpAnyH_take (i := 1) (oi := ⟨some 13, _, _, _, _, _⟩) (v := .pointer (some ⟨bx, 1, none⟩)) rfl (by kernel_rfl) (by kernel_rfl) (by kernel_rfl) (fun _ _ _ h => hP _ _ _ _ _ h) (Or.inl ⟨rfl, fun w' hSw => by (try dsimp only at hSw); go_simp; (try with_reducible rfl)⟩) (hSof _ lv) ?_
  try simp only [Act.put, qb25a, qb25z, qb25s]
  refine wpAnyH_take (i := 2) (oi := ⟨some 14, _, _, _, _, _⟩) (v := .string d1) rfl (by kernel_rfl) (by kernel_rfl) (by kernel_rfl) (fun _ _ _ h => hP _ _ _ _ _ h) (Or.inl ⟨rfl, fun w' hSw => by (try dsimp only at hSw); go_simp; (try with_reducible rfl)⟩) (hSof _ lv) ?_
  try simp only [Act.put, qb25a, qb25z, qb25s]
  refine wpAnyH_take (i := 3) (oi := ⟨some 15, _, _, _, _, _⟩) (v := .pointer (some ⟨bx, 0, none⟩)) rfl (by kernel_rfl) (by kernel_rfl) (by kernel_rfl) (fun _ _ _ h => hP _ _ _ _ _ h) (Or.inl ⟨rfl, fun w' hSw => by (try dsimp only at hSw); go_simp; (try with_reducible rfl)⟩) (hSof _ lv) ?_
  try simp only [Act.put, qb25a, qb25z, qb25s]
  refine wpAnyH_take (i := 4) (oi := ⟨some 16, _, _, _, _, _⟩) (v := .string n1) rfl (by kernel_rfl) (by kernel_rfl) (by kernel_rfl) (fun _ _ _ h => hP _ _ _ _ _ h) (Or.inl ⟨rfl, fun w' hSw => by (try dsimp only at hSw); go_simp; (try with_reducible rfl)⟩) (hSof _ lv) ?_
  try simp only [Act.put, qb25a, qb25z, qb25s]
  refine wpAnyH_ready (rs := [5, 7]) (by kernel_rfl) (by simp) ?_
  refine AllReadyH.cons (o := ⟨some 17, _, _, _, _, _⟩) rfl (fun K hK => ?_) (AllReadyH.cons (o := ⟨some 6, _, _, _, _, _⟩) rfl (fun K hK => ?_) AllReadyH.nil)
  · go_simp
    refine (H0 _ lv).mono ?_
    rintro e Y ⟨rfl, hb⟩
    have lv := lv.trans (hb.mono lv.size)
    refine hK.out _ _ (hSof _ lv) (fun _ => ?_)
    clear hK K
    try simp only [Act.put, qb25a, qb25z, qb25s]
    obtain ⟨X, rfl⟩ : ∃ X, X = Y := ⟨_, rfl⟩
    refine wpAnyH_ready (rs := [6, 7]) (by kernel_rfl) (by simp) ?_
    refine AllReadyH.cons (o := ⟨some 18, _, _, _, _, _⟩) rfl (fun K hK => ?_) (AllReadyH.cons (o := ⟨some 6, _, _, _, _, _⟩) rfl (fun K hK => ?_) AllReadyH.nil)
    · go_simp
      refine (H1 _ lv).mono ?_
      rintro e Y ⟨rfl, hb⟩
      have lv := lv.trans (hb.mono lv.size)
      refine hK.out _ _ (hSof _ lv) (fun _ => ?_)
      clear hK K
      try simp only [Act.put, qb25a, qb25z, qb25s]
      obtain ⟨X, rfl⟩ : ∃ X, X = Y := ⟨_, rfl⟩
      refine wpAnyH_ready (rs := [7]) (by kernel_rfl) (by simp) ?_
      refine AllReadyH.cons (o := ⟨some 6, _, _, _, _, _⟩) rfl (fun K hK => ?_) AllReadyH.nil
      go_simp
      have bn := belowNew X (.cells #[.string ⟨#[]⟩, .string ⟨#[]⟩] 61)
      have ro := RC.new X 61 (.string ⟨#[]⟩) (.string ⟨#[]⟩)
      have hTo := lv.size
      have lv := lv.trans (bn.mono lv.size)
      refine hK.out _ _ (hSof _ lv) (fun _ => ?_)
      clear hK K bn
      try simp only [Act.put, qb25a, qb25z, qb25s]
      obtain ⟨To, hToe⟩ : ∃ To, To = X.heap.size := ⟨_, rfl⟩
      rw [← hToe] at ro hTo ⊢
      clear hToe
      generalize X.alloc (.cells #[.string ⟨#[]⟩, .string ⟨#[]⟩] 61) = X at *
      refine wpAnyH_ready (rs := [8]) (by kernel_rfl) (by simp) ?_
      refine AllReadyH.cons (o := ⟨none, .store _ (.tmp 6) (.tmp 18), _, _, _, _⟩) rfl (fun K hK => ?_) AllReadyH.nil
      have c0 := ro.c00
      have c1 := ro.c01
      have f0 := ro.f0
      go_simp
      have lv := Below.put2 lv hTo (.string q1) (.string q2)
      have ro := ro.put (.string q1) (.string q2)
      refine hK.out _ _ (hSof _ lv) (fun _ => ?_)
      clear hK K
      try simp only [Act.put, qb25a, qb25z, qb25s]
      refine wpAnyH_done (by kernel_rfl) ?_ _
      exact HQ.out _ _ ro hTo lv
    · go_simp
      have bn := belowNew X (.cells #[.string ⟨#[]⟩, .string ⟨#[]⟩] 61)
      have ro := RC.new X 61 (.string ⟨#[]⟩) (.string ⟨#[]⟩)
      have hTo := lv.size
      have lv := lv.trans (bn.mono lv.size)
      refine hK.out _ _ (hSof _ lv) (fun _ => ?_)
      clear hK K bn
      try simp only [Act.put, qb25a, qb25z, qb25s]
      obtain ⟨To, hToe⟩ : ∃ To, To = X.heap.size := ⟨_, rfl⟩
      rw [← hToe] at ro hTo ⊢
      clear hToe
      generalize X.alloc (.cells #[.string ⟨#[]⟩, .string ⟨#[]⟩] 61) = X at *
      refine wpAnyH_ready (rs := [6]) (by kernel_rfl) (by simp) ?_
      refine AllReadyH.cons (o := ⟨some 18, _, _, _, _, _⟩) rfl (fun K hK => ?_) AllReadyH.nil
      go_simp
      refine (H1 _ lv).mono ?_
      rintro e Y ⟨rfl, hb⟩
      have lv := lv.trans (hb.mono lv.size)
      have ro := ro.below hb
      refine hK.out _ _ (hSof _ lv) (fun _ => ?_)
      clear hK K
      try simp only [Act.put, qb25a, qb25z, qb25s]
      obtain ⟨X, rfl⟩ : ∃ X, X = Y := ⟨_, rfl⟩
      refine wpAnyH_ready (rs := [8]) (by kernel_rfl) (by simp) ?_
      refine AllReadyH.cons (o := ⟨none, .store _ (.tmp 6) (.tmp 18), _, _, _, _⟩) rfl (fun K hK => ?_) AllReadyH.nil
      have c0 := ro.c00
      have c1 := ro.c01
      have f0 := ro.f0
      go_simp
      have lv := Below.put2 lv hTo (.string q1) (.string q2)
      have ro := ro.put (.string q1) (.string q2)
      refine hK.out _ _ (hSof _ lv) (fun _ => ?_)
      clear hK K
      try simp only [Act.put, qb25a, qb25z, qb25s]
      refine wpAnyH_done (by kernel_rfl) ?_ _
      exact HQ.out _ _ ro hTo lv
  · go_simp
    have bn := belowNew X (.cells #[.string ⟨#[]⟩, .string ⟨#[]⟩] 61)
    have ro := RC.new X 61 (.string ⟨#[]⟩) (.string ⟨#[]⟩)
    have hTo := lv.size
    have lv := lv.trans (bn.mono lv.size)
    refine hK.out _ _ (hSof _ lv) (fun _ => ?_)
    clear hK K bn
    try simp only [Act.put, qb25a, qb25z, qb25s]
    obtain ⟨To, hToe⟩ : ∃ To, To = X.heap.size := ⟨_, rfl⟩
    rw [← hToe] at ro hTo ⊢
    clear hToe
    generalize X.alloc (.cells #[.string ⟨#[]⟩, .string ⟨#[]⟩] 61) = X at *
    refine wpAnyH_ready (rs := [5]) (by kernel_rfl) (by simp) ?_
    refine AllReadyH.cons (o := ⟨some 17, _, _, _, _, _⟩) rfl (fun K hK => ?_) AllReadyH.nil
    go_simp
    refine (H0 _ lv).mono ?_
    rintro e Y ⟨rfl, hb⟩
    have lv := lv.trans (hb.mono lv.size)
    have ro := ro.below hb
    refine hK.out _ _ (hSof _ lv) (fun _ => ?_)
    clear hK K
    try simp only [Act.put, qb25a, qb25z, qb25s]
    obtain ⟨X, rfl⟩ : ∃ X, X = Y := ⟨_, rfl⟩
    refine wpAnyH_ready (rs := [6]) (by kernel_rfl) (by simp) ?_
    refine AllReadyH.cons (o := ⟨some 18, _, _, _, _, _⟩) rfl (fun K hK => ?_) AllReadyH.nil
    go_simp
    refine (H1 _ lv).mono ?_
    rintro e Y ⟨rfl, hb⟩
    have lv := lv.trans (hb.mono lv.size)
    have ro := ro.below hb
    refine hK.out _ _ (hSof _ lv) (fun _ => ?_)
    clear hK K
    try simp only [Act.put, qb25a, qb25z, qb25s]
    obtain ⟨X, rfl⟩ : ∃ X, X = Y := ⟨_, rfl⟩
    refine wpAnyH_ready (rs := [8]) (by kernel_rfl) (by simp) ?_
    refine AllReadyH.cons (o := ⟨none, .store _ (.tmp 6) (.tmp 18), _, _, _, _⟩) rfl (fun K hK => ?_) AllReadyH.nil
    have c0 := ro.c00
    have c1 := ro.c01
    have f0 := ro.f0
    go_simp
    have lv := Below.put2 lv hTo (.string q1) (.string q2)
    have ro := ro.put (.string q1) (.string q2)
    refine hK.out _ _ (hSof _ lv) (fun _ => ?_)
    clear hK K
    try simp only [Act.put, qb25a, qb25z, qb25s]
    refine wpAnyH_done (by kernel_rfl) ?_ _
    exact HQ.out _ _ ro hTo lv

end Go.Proofs.YtppbhnhmaocdnaaGreatDoor
namespace Go.Proofs.YtppbhnhmaocdnaaGreatDoor
open Go.RowKit Go.Shelf

theorem isR_one : IsR 1 1 := ⟨by rw [big_eq]; decide +kernel, by rw [big_eq]; decide +kernel, by decide +kernel⟩

structure LbI (w : World) (one : ByteArray) (k : Int) (n' d' : ByteArray) (R : Nat) (f0 f1 f2 f3 f6 f7 f8 : Value) (W : World) : Prop where
  m : SxI w one k n' d' W
  f : R9 R W f0 f1 f2 f3 (.string ⟨#[49]⟩) (.string ⟨#[49]⟩) f6 f7 f8
theorem LbI.below {w : World} {one : ByteArray} {k : Int} {n' d' : ByteArray} {R : Nat} {f0 f1 f2 f3 f6 f7 f8 : Value} {W W' : World} (h : LbI w one k n' d' R f0 f1 f2 f3 f6 f7 f8 W) (hb : Below W.heap.size W W') : LbI w one k n' d' R f0 f1 f2 f3 f6 f7 f8 W' := ⟨h.m.below hb, h.f.below hb⟩

def pLogB (k : Nat) (x : Int × Int) (D M1 M2 : Nat) : Int × Int :=
  if cmpQ x.1 x.2 1 1 < 0 then (0 - (pLog k (x.2, x.1) D M1 M2).2, 0 - (pLog k (x.2, x.1) D M1 M2).1) else pLog k x D M1 M2
structure LogBOk (k : Nat) (x : Int × Int) (D M1 M2 : Nat) : Prop where
  r : IsR x.1 x.2
  lo : cmpQ x.1 x.2 1 1 < 0 → LogOk k (x.2, x.1) D M1 M2 ∧ Fit (pLog k (x.2, x.1) D M1 M2)
  hi : ¬ cmpQ x.1 x.2 1 1 < 0 → LogOk k x D M1 M2

set_option maxRecDepth 100000 in
set_option maxHeartbeats 8000000 in
theorem logB_in (k : Nat) (x : Int × Int) (D M1 M2 : Nat) (R : Nat) (f0 f1 f2 f3 f6 f7 f8 : Value) (w : World) (h : LogBOk k x D M1 M2) (hR : R < w.heap.size) (hf : R9 R w f0 f1 f2 f3 (.string ⟨#[49]⟩) (.string ⟨#[49]⟩) f6 f7 f8) (ht : TabOf w) :
    Calls Tryz.prog 47 #[SV k, NV x, .pointer (some ⟨R, 0, none⟩)] w (NPost (pLogB k x D M1 M2) w) := by
  have HCM := fun W h' => rcmp_in x.1 x.2 1 1 W h.r isR_one h'
  unfold RV at HCM
  rw [str_one] at HCM
  by_cases hneg : cmpQ x.1 x.2 1 1 < 0
  · have HLG := fun W h' => log_in k (x.2, x.1) D M1 M2 W (h.lo hneg).1 h'
    have hfit := (h.lo hneg).2
    have HS1 := fun W h' => ssub_in 0 (pLog k (x.2, x.1) D M1 M2).2 W (by decide) hfit.2 (by have := hfit.2; omega) h'
    have HS2 := fun W h' => ssub_in 0 (pLog k (x.2, x.1) D M1 M2).1 W (by decide) hfit.1 (by have := hfit.1; omega) h'
    have e : pLogB k x D M1 M2 = (0 - (pLog k (x.2, x.1) D M1 M2).2, 0 - (pLog k (x.2, x.1) D M1 M2).1) := by unfold pLogB; rw [if_pos hneg]
    rw [e]
    unfold NPost NV SV at HLG
    unfold StrPost at HS1 HS2
    unfold NPost NV SV
    rw [str_zero] at HS1 HS2
    have hc : decide (cmpQ x.1 x.2 1 1 < 0) = true := decide_eq_true hneg
    clear h hneg e hfit
    dsimp only at *
    generalize cmpQ x.1 x.2 1 1 = cc at *
    generalize str (0 - (pLog k (x.2, x.1) D M1 M2).2) = RR1 at *
    generalize str (0 - (pLog k (x.2, x.1) D M1 M2).1) = RR2 at *
    generalize str (pLog k (x.2, x.1) D M1 M2).1 = LG1 at *
    generalize str (pLog k (x.2, x.1) D M1 M2).2 = LG2 at *
    generalize str ((10 ^ k : Nat) : Int) = one at *
    generalize str x.1 = n' at *
    generalize str x.2 = d' at *
    have HCM := Lib.hid HCM
    have HLG := Lib.hid HLG
    have HS1 := Lib.hid HS1
    have HS2 := Lib.hid HS2
    have hI : LbI w one k n' d' R f0 f1 f2 f3 f6 f7 f8 _ := ⟨SxI.start w one k n' d' 59 25 61, ((hf.below (belowNew _ _)).below (belowNew _ _)).below (belowNew _ _)⟩
    clear hf
    have y0 := hI.m.x.c00
    have y1 := hI.m.x.c01
    have y2 := hI.f.c4
    have y3 := hI.f.c5
    go_enter Tryz.func47, Tryz.ntmps47
    go_wp2_with (first
      | (go_at_call 17; refine (HCM.out _ (ht.below hI.m.b)).mono ?_; rintro e w1 ⟨rfl, hb1⟩; have i1 := hI.below hb1; clear hI y0 y1 y2 y3))
    refine logBReg (h_bs := i1.m.s) (h_bx := i1.m.x) (H0 := fun V hV => ratio_in _ _ V) (H1 := fun V hV => HLG.out V (ht.below (i1.m.b.trans (hV.mono i1.m.b.size)))) (hP := ?hP) (hQ := ?hQ)
    case hP => exact fun _ _ d _ _ h => by cases d <;> exact h
    case hQ =>
      intro To F hro hTo hlF
      have i2 := i1.below hlF
      have hoF : w.heap.size + 1 + 1 < To := Nat.lt_of_lt_of_le (ltOf i1.m.o.c00) hTo
      have n1 : w.heap.size + 1 + 1 ≠ To := by omega
      have j0 := i2.m.drew
      have t0 := hro.drew
      clear i1 i2 hro hTo hoF hlF hb1 HCM HLG
      go_wp2
      go_region_held3 (fun W => W.cell? ⟨To, 0, none⟩ = some (.string LG1) ∧ W.cell? ⟨To, 1, none⟩ = some (.string LG2))
        (first
          | with_reducible exact ⟨t0.c00, t0.c01⟩
          | with_reducible exact ⟨t1.c00, t1.c01⟩
          | with_reducible exact ⟨t2.c00, t2.c01⟩
          | exact ⟨cell_put2 t2.c00 n1 _ _, cell_put2 t2.c01 n1 _ _⟩) (first
        | (have hchk := t0; clear hchk; have HA := HS1; go_at_call 49; refine (HA.out (World.drew _) (ht.below j0.b)).mono ?_; clear HA HS1; rintro e w5 ⟨rfl, hb5⟩; have j1 := j0.below hb5; have t1 := t0.below hb5)
        | (have hchk := t1; clear hchk; have HA := HS2; go_at_call 49; refine (HA.out _ (ht.below j1.b)).mono ?_; clear HA HS2; rintro e w6 ⟨rfl, hb6⟩; have j2 := j1.below hb6; have t2 := t1.below hb6; have z0 := j2.o.c00; have z1 := j2.o.c01; have z2 := j2.o.f0))
      all_goals
        go_wp2
        have r5 := j2.o.put (.string RR1) (.string RR2)
        refine bodyPost_ret_by (v := .agg #[.string RR1, .string RR2]) (by simp [results, Tryz.f47, go_sem, r5.c00, r5.c01]) rfl ⟨rfl, below_put2 j2.b _ _ (by omega)⟩
  · have HLG := fun W h' => log_in k x D M1 M2 W (h.hi hneg) h'
    have e : pLogB k x D M1 M2 = pLog k x D M1 M2 := by unfold pLogB; rw [if_neg hneg]
    rw [e]
    unfold NPost NV SV at HLG
    unfold NPost NV SV
    have hc : decide (cmpQ x.1 x.2 1 1 < 0) = false := decide_eq_false hneg
    clear h hneg e
    generalize cmpQ x.1 x.2 1 1 = cc at *
    generalize pLog k x D M1 M2 = LG at *
    obtain ⟨RR1, RR2⟩ := LG
    dsimp only at *
    generalize str RR1 = RR1 at *
    generalize str RR2 = RR2 at *
    generalize str ((10 ^ k : Nat) : Int) = one at *
    generalize str x.1 = n' at *
    generalize str x.2 = d' at *
    have HCM := Lib.hid HCM
    have HLG := Lib.hid HLG
    have hI : LbI w one k n' d' R f0 f1 f2 f3 f6 f7 f8 _ := ⟨SxI.start w one k n' d' 59 25 61, ((hf.below (belowNew _ _)).below (belowNew _ _)).below (belowNew _ _)⟩
    clear hf
    have y0 := hI.m.x.c00
    have y1 := hI.m.x.c01
    have y2 := hI.f.c4
    have y3 := hI.f.c5
    go_enter Tryz.func47, Tryz.ntmps47
    go_wp2_with (first
      | (go_at_call 17; refine (HCM.out _ (ht.below hI.m.b)).mono ?_; rintro e w1 ⟨rfl, hb1⟩; have i1 := hI.below hb1; clear hI y0 y1 y2 y3; have y0 := i1.m.x.c00; have y1 := i1.m.x.c01; have y4 := i1.m.s.c00; have y5 := i1.m.s.c01)
      | (go_at_call 48; refine (HLG.out _ (ht.below i1.m.b)).mono ?_; rintro e w2 ⟨rfl, hb2⟩; have i2 := i1.below hb2; have z0 := i2.m.o.c00; have z1 := i2.m.o.c01; have z2 := i2.m.o.f0))
    have r5 := i2.m.o.put (.string RR1) (.string RR2)
    refine bodyPost_ret_by (v := .agg #[.string RR1, .string RR2]) (by simp [results, Tryz.f47, go_sem, r5.c00, r5.c01]) rfl ⟨rfl, below_put2 i2.m.b _ _ (by omega)⟩
theorem ent_logB : ∀ args w, (callFunc 47 args).run Tryz.prog w = .ok (.enter 47 args) w := enters_of Tryz.func47 (by kernel_rfl) rfl
end Go.Proofs.YtppbhnhmaocdnaaGreatDoor
namespace Go.Proofs.YtppbhnhmaocdnaaGreatDoor
open Go.RowKit Go.Shelf

structure CbI (w : World) (one : ByteArray) (k : Int) (n' d' : ByteArray) (R : Nat) (f : Int) (W : World) : Prop where
  m : SxI w one k n' d' W
  f : W.cell? ⟨R, 0, none⟩ = some (.int .i64 f)
theorem CbI.below {w : World} {one : ByteArray} {k : Int} {n' d' : ByteArray} {R : Nat} {f : Int} {W W' : World} (h : CbI w one k n' d' R f W) (hb : Below W.heap.size W W') : CbI w one k n' d' R f W' := ⟨h.m.below hb, Below.get hb h.f⟩

set_option maxRecDepth 100000 in
set_option maxHeartbeats 8000000 in
theorem chiB_in (k : Nat) (x : Int × Int) (f : Int) (M H M2 r1 r2 p1 p2 J : Nat) (R : Nat) (w : World) (h : TailOk k x f M H M2 r1 r2 p1 p2 J) (hf : w.cell? ⟨R, 0, none⟩ = some (.int .i64 f)) (ht : TabOf w) :
    Calls Tryz.prog 71 #[SV k, NV x, .pointer (some ⟨R, 0, none⟩)] w (NPost (pTail k x f M H M2 r1 r2 p1 p2 J) w) := by
  have HTL := fun W h' => tail_in k x f M H M2 r1 r2 p1 p2 J W h h'
  clear h
  unfold NPost NV SV at HTL
  unfold NPost NV SV
  generalize pTail k x f M H M2 r1 r2 p1 p2 J = RR at *
  obtain ⟨RR1, RR2⟩ := RR
  dsimp only at *
  generalize str RR1 = RR1 at *
  generalize str RR2 = RR2 at *
  generalize str ((10 ^ k : Nat) : Int) = one at *
  generalize str x.1 = n' at *
  generalize str x.2 = d' at *
  have HTL := Lib.hid HTL
  have hI : CbI w one k n' d' R f _ := ⟨SxI.start w one k n' d' 59 25 61, Below.get (belowNew _ _) (Below.get (belowNew _ _) (Below.get (belowNew _ _) hf))⟩
  clear hf
  have y0 := hI.m.x.c00
  have y1 := hI.m.x.c01
  have y2 := hI.m.s.c00
  have y3 := hI.m.s.c01
  have y4 := hI.f
  go_enter Tryz.func71, Tryz.ntmps71
  go_wp2_with (first
    | (go_at_call 72; refine (HTL.out _ (ht.below hI.m.b)).mono ?_; rintro e w1 ⟨rfl, hb1⟩; have i1 := hI.below hb1; have z0 := i1.m.o.c00; have z1 := i1.m.o.c01; have z2 := i1.m.o.f0))
  have r5 := i1.m.o.put (.string RR1) (.string RR2)
  refine bodyPost_ret_by (v := .agg #[.string RR1, .string RR2]) (by simp [results, Tryz.f71, go_sem, r5.c00, r5.c01]) rfl ⟨rfl, below_put2 i1.m.b _ _ (by omega)⟩
theorem ent_chiB : ∀ args w, (callFunc 71 args).run Tryz.prog w = .ok (.enter 71 args) w := enters_of Tryz.func71 (by kernel_rfl) rfl

set_option maxRecDepth 100000 in
set_option maxHeartbeats 8000000 in
theorem Chi_of (x : Int × Int) (f p : Int) (c1 c2 c3 c4 : ByteArray) (er : Int) (w : World) (hf1 : 1 ≤ f) (hf2 : f ≤ 20)
    (hc : ∀ W R, Below w.heap.size w W → R < W.heap.size → W.cell? ⟨R, 0, none⟩ = some (.int .i64 f) → Calls Tryz.prog 44 #[FnV (0, 1) (100, 1) (0, 1) (1, 1) (.func (.func 71) #[] #[.pointer (some ⟨R, 0, none⟩)]), NV x, .int .i64 p] W (AnsPost c1 c2 c3 c4 er W)) :
    Calls Tryz.prog 26 #[NV x, .int .i64 f, .int .i64 p] w (AnsPost c1 c2 c3 c4 er w) := by
  unfold AnsPost FnV NV at hc
  unfold AnsPost NV
  dsimp only at hc
  rw [str_zero, str_100, str_one] at hc
  generalize str x.1 = xa at *
  generalize str x.2 = xb at *
  have HC := Lib.hid hc
  clear hc
  have d1 : decide (f < 1) = false := decide_eq_false (by omega)
  have d2 : decide (20 < f) = false := decide_eq_false (by omega)
  obtain ⟨W0, hW0, x0, g0, o0, b0⟩ : ∃ W, W = ((w.alloc (.cells #[.string xa, .string xb] 25)).alloc (.cells #[.int .i64 f] 3)).alloc (.cells #[.string ⟨#[]⟩, .string ⟨#[]⟩, .string ⟨#[]⟩, .string ⟨#[]⟩] 32) ∧ RC w.heap.size W (.string xa) (.string xb) ∧ W.cell? ⟨w.heap.size + 1, 0, none⟩ = some (.int .i64 f) ∧ R4 (w.heap.size + 1 + 1) W (.string ⟨#[]⟩) (.string ⟨#[]⟩) (.string ⟨#[]⟩) (.string ⟨#[]⟩) ∧ Below w.heap.size w W := by
    have bn := belowNew w (.cells #[.string xa, .string xb] 25)
    have bn2 := belowNew (w.alloc (.cells #[.string xa, .string xb] 25)) (.cells #[.int .i64 f] 3)
    have bn3 := belowNew ((w.alloc (.cells #[.string xa, .string xb] 25)).alloc (.cells #[.int .i64 f] 3)) (.cells #[.string ⟨#[]⟩, .string ⟨#[]⟩, .string ⟨#[]⟩, .string ⟨#[]⟩] 32)
    have x0 := ((RC.new w 25 (.string xa) (.string xb)).below bn2).below bn3
    have g0 := cellAt (w.alloc (.cells #[.string xa, .string xb] 25)) #[.int .i64 f] 3 0 _ rfl
    have g0 := Below.get bn3 g0
    have o0 := R4.new ((w.alloc (.cells #[.string xa, .string xb] 25)).alloc (.cells #[.int .i64 f] 3)) 32 (.string ⟨#[]⟩) (.string ⟨#[]⟩) (.string ⟨#[]⟩) (.string ⟨#[]⟩)
    rw [sizeNew, sizeNew] at o0
    rw [sizeNew] at g0
    exact ⟨_, rfl, x0, g0, o0, (bn.trans (bn2.mono bn.size)).trans (bn3.mono (bn.trans (bn2.mono bn.size)).size)⟩
  have y2 := g0
  rw [hW0] at y2
  have b0' := b0
  have x0' := x0
  have o0' := o0
  have g0' := g0
  rw [hW0] at b0' x0' o0' g0'
  clear b0 x0 o0 g0 hW0
  go_enter Tryz.func26, Tryz.ntmps26
  go_wp2_with (first
    | (have hchk := b0'; clear hchk; go_at_call 37; refine (ratio_in _ _ _).mono ?_; rintro e w1 ⟨rfl, hb1⟩; have b1 := b0'.trans (hb1.mono b0'.size); have x1 := x0'.below hb1; have o1 := o0'.below hb1; have g1 := Below.get hb1 g0'; clear hb1 b0' x0' o0' g0' y2)
    | (have hchk := b1; clear hchk; go_at_call 37; refine (ratio_in _ _ _).mono ?_; rintro e w2 ⟨rfl, hb2⟩; have b2 := b1.trans (hb2.mono b1.size); have x2 := x1.below hb2; have o2 := o1.below hb2; have g2 := Below.get hb2 g1; clear hb2 b1 x1 o1 g1)
    | (have hchk := b2; clear hchk; go_at_call 37; refine (ratio_in _ _ _).mono ?_; rintro e w3 ⟨rfl, hb3⟩; have b3 := b2.trans (hb3.mono b2.size); have x3 := x2.below hb3; have o3 := o2.below hb3; have g3 := Below.get hb3 g2; clear hb3 b2 x2 o2 g2)
    | (have hchk := b3; clear hchk; go_at_call 37; refine (ratio_in _ _ _).mono ?_; rintro e w4 ⟨rfl, hb4⟩; have b4 := b3.trans (hb4.mono b3.size); have bf := belowNew w4 (.cells #[.string ⟨#[48]⟩, .string ⟨#[49]⟩, .string ⟨#[49, 48, 48]⟩, .string ⟨#[49]⟩, .string ⟨#[48]⟩, .string ⟨#[49]⟩, .string ⟨#[49]⟩, .string ⟨#[49]⟩, .func (.func 71) #[] #[.pointer (some ⟨w.heap.size + 1, 0, none⟩)]] 57); have x5 := (x3.below hb4).below bf; have o5 := (o3.below hb4).below bf; have g5 := Below.get bf (Below.get hb4 g3); have b5 := b4.trans (bf.mono b4.size); clear hb4 b3 x3 o3 g3 b4 bf; have y0 := x5.c00; have y1 := x5.c01)
    | (go_at_call 44; refine (HC.out _ _ b5 (ltOf g5) g5).mono ?_; rintro e w8 ⟨rfl, hb8⟩; have o8 := o5.below hb8; have z0 := o8.c0; have z1 := o8.c1; have z2 := o8.c2; have z3 := o8.c3; have z4 := o8.f; have b8 := b5.trans (hb8.mono b5.size)))
  have r5 := o8.put (.string c1) (.string c2) (.string c3) (.string c4)
  refine bodyPost_ret_by (v := .tuple #[.agg #[.string c1, .string c2, .string c3, .string c4], .int .i64 er]) (by simp [results, Tryz.f26, go_sem, r5.c0, r5.c1, r5.c2, r5.c3]) rfl ⟨rfl, below_put4 b8 _ _ _ _ (by omega)⟩
end Go.Proofs.YtppbhnhmaocdnaaGreatDoor
namespace Go.Proofs.YtppbhnhmaocdnaaGreatDoor
open Go.RowKit Go.Shelf

theorem isR_m13 : IsR (-((10 ^ 13 : Nat) : Int)) 1 := ⟨by rw [big_eq]; decide +kernel, by rw [big_eq]; decide +kernel, by decide +kernel⟩
theorem isR_13 : IsR ((10 ^ 13 : Nat) : Int) 1 := ⟨by rw [big_eq]; decide +kernel, by rw [big_eq]; decide +kernel, by decide +kernel⟩
theorem isR_m8 : IsR (-8) 1 := ⟨by rw [big_eq]; decide +kernel, by rw [big_eq]; decide +kernel, by decide +kernel⟩
theorem isR_8 : IsR 8 1 := ⟨by rw [big_eq]; decide +kernel, by rw [big_eq]; decide +kernel, by decide +kernel⟩
theorem str_m13 : str (-((10 ^ 13 : Nat) : Int)) = ⟨#[45]⟩ ++ (⟨#[49, 48, 48, 48, 48, 48, 48, 48, 48, 48, 48, 48, 48, 48]⟩ : ByteArray) := by
  rw [str, itoa_neg (by decide)]
  have : Lib.decDigits 10000000000000 = [49, 48, 48, 48, 48, 48, 48, 48, 48, 48, 48, 48, 48, 48] := by decide +kernel
  show (⟨(45 :: Lib.decDigits 10000000000000).toArray⟩ : ByteArray) = _
  rw [this]
  rfl
theorem str_8 : str 8 = ⟨#[56]⟩ := by
  have : Lib.decDigits 8 = [56] := by decide +kernel
  rw [str, show (8 : Int) = ((8 : Nat) : Int) from rfl, itoa_nat, this]

structure NoI (w : World) (xa xb : ByteArray) (R : Nat) (ma ten : ByteArray) (W : World) : Prop where
  x : RC w.heap.size W (.string xa) (.string xb)
  o : R4 (w.heap.size + 1) W (.string ⟨#[]⟩) (.string ⟨#[]⟩) (.string ⟨#[]⟩) (.string ⟨#[]⟩)
  f : R9 R W (.string ma) (.string ⟨#[49]⟩) (.string ten) (.string ⟨#[49]⟩) (.string ⟨#[48]⟩) (.string ⟨#[49]⟩) (.string ⟨#[49]⟩) (.string ⟨#[50]⟩) (.func (.func 62) #[] #[])
  b : Below w.heap.size w W
theorem NoI.below {w : World} {xa xb : ByteArray} {R : Nat} {ma ten : ByteArray} {W W' : World} (h : NoI w xa xb R ma ten W) (hb : Below W.heap.size W W') : NoI w xa xb R ma ten W' := ⟨h.x.below hb, h.o.below hb, h.f.below hb, h.b.trans (hb.mono h.b.size)⟩
theorem NoI.drew {w : World} {xa xb : ByteArray} {R : Nat} {ma ten : ByteArray} {W : World} (h : NoI w xa xb R ma ten W) : NoI w xa xb R ma ten W.drew := h.below (Below.refl _ W).drew

set_option maxRecDepth 100000 in
set_option maxHeartbeats 8000000 in
theorem Normal_of (x : Int × Int) (p : Int) (c1 c2 c3 c4 : ByteArray) (er : Int) (w : World) (hx : ShortQ x.1 x.2) (hp1 : -1000000000000000000 ≤ p) (hp2 : p ≤ 1000000000000000000)
    (hl : cmpQ x.1 x.2 (-8) 1 > 0) (hh : cmpQ x.1 x.2 8 1 < 0) (hr : rightB (-((10 ^ 13 : Nat) : Int), 1) (((10 ^ 13 : Nat) : Int), 1) x p = true) (ht : TabOf w)
    (hc : ∀ W, Below w.heap.size w W → Calls Tryz.prog 44 #[FnV (-((10 ^ 13 : Nat) : Int), 1) (((10 ^ 13 : Nat) : Int), 1) (0, 1) (1, 2) (.func (.func 62) #[] #[]), NV x, .int .i64 p] W (AnsPost c1 c2 c3 c4 er W)) :
    Calls Tryz.prog 20 #[NV x, .int .i64 p] w (AnsPost c1 c2 c3 c4 er w) := by
  have HR := fun W h' => right_in (-((10 ^ 13 : Nat) : Int), 1) (((10 ^ 13 : Nat) : Int), 1) (0, 1) (1, 2) x (.func (.func 62) #[] #[]) p W ⟨_, _, _, .inl rfl⟩ isR_m13 isR_13 hx hp1 hp2 h'
  rw [hr] at HR
  have HC1 := fun W h' => rcmp_in x.1 x.2 (-8) 1 W hx.r isR_m8 h'
  have HC2 := fun W h' => rcmp_in x.1 x.2 8 1 W hx.r isR_8 h'
  have d1 : decide (0 < cmpQ x.1 x.2 (-8) 1) = true := decide_eq_true hl
  have d2 : decide (cmpQ x.1 x.2 8 1 < 0) = true := decide_eq_true hh
  unfold AnsPost FnV NV at hc
  unfold FnV NV at HR
  unfold RV at HC1 HC2
  unfold AnsPost NV
  dsimp only at hc HR
  clear hl hh hr hx
  have HAT := Lib.hid sat13
  have hfd : ∀ p w, (Instr.field 59 (.agg #[.int .i64 p, .string ⟨#[49, 48, 48, 48, 48, 48, 48, 48, 48, 48, 48, 48, 48, 48]⟩]) 1).run Tryz.prog w = .ok (.string ⟨#[49, 48, 48, 48, 48, 48, 48, 48, 48, 48, 48, 48, 48, 48]⟩) w := fun p w => field_one _ _ w
  rw [str_m13, str_ten13, str_zero, str_one, str_two] at hc HR
  rw [str_n8, str_one] at HC1
  rw [str_8, str_one] at HC2
  have hts : ¬ (9223372036854775807 < 1 + (⟨#[49, 48, 48, 48, 48, 48, 48, 48, 48, 48, 48, 48, 48, 48]⟩ : ByteArray).size) := by decide
  generalize (⟨#[49, 48, 48, 48, 48, 48, 48, 48, 48, 48, 48, 48, 48, 48]⟩ : ByteArray) = ten at *
  generalize cmpQ x.1 x.2 (-8) 1 = k1 at *
  generalize cmpQ x.1 x.2 8 1 = k2 at *
  generalize str x.1 = xa at *
  generalize str x.2 = xb at *
  have HC := Lib.hid hc
  clear hc
  have HR := Lib.hid HR
  have HC1 := Lib.hid HC1
  have HC2 := Lib.hid HC2
  have bn := belowNew w (.cells #[.string xa, .string xb] 25)
  have bn2 := belowNew (w.alloc (.cells #[.string xa, .string xb] 25)) (.cells #[.string ⟨#[]⟩, .string ⟨#[]⟩, .string ⟨#[]⟩, .string ⟨#[]⟩] 32)
  have x0 := (RC.new w 25 (.string xa) (.string xb)).below bn2
  have o0 := R4.new (w.alloc (.cells #[.string xa, .string xb] 25)) 32 (.string ⟨#[]⟩) (.string ⟨#[]⟩) (.string ⟨#[]⟩) (.string ⟨#[]⟩)
  rw [sizeNew] at o0
  have b0 := bn.trans (bn2.mono bn.size)
  clear bn bn2
  go_enter Tryz.func20, Tryz.ntmps20
  go_wp2_with (first
    | (have hchk := b0; clear hchk; go_at_call 46; refine (HAT.out _).mono ?_; rintro e w1 ⟨rfl, hb1⟩; have b1 := b0.trans (hb1.mono b0.size); have x1 := x0.below hb1; have o1 := o0.below hb1; clear hb1 b0 x0 o0)
    | (have hchk := b1; clear hchk; go_at_call 37; refine (ratio_in _ _ _).mono ?_; rintro e w2 ⟨rfl, hb2⟩; have b2 := b1.trans (hb2.mono b1.size); have x2 := x1.below hb2; have o2 := o1.below hb2; clear hb2 b1 x1 o1)
    | (have hchk := b2; clear hchk; go_at_call 46; refine (HAT.out _).mono ?_; rintro e w3 ⟨rfl, hb3⟩; have b3 := b2.trans (hb3.mono b2.size); have x3 := x2.below hb3; have o3 := o2.below hb3; clear hb3 b2 x2 o2)
    | (have hchk := b3; clear hchk; go_at_call 37; refine (ratio_in _ _ _).mono ?_; rintro e w4 ⟨rfl, hb4⟩; have b4 := b3.trans (hb4.mono b3.size); have x4 := x3.below hb4; have o4 := o3.below hb4; clear hb4 b3 x3 o3)
    | (have hchk := b4; clear hchk; go_at_call 37; refine (ratio_in _ _ _).mono ?_; rintro e w5 ⟨rfl, hb5⟩; have b5 := b4.trans (hb5.mono b4.size); have x5 := x4.below hb5; have o5 := o4.below hb5; clear hb5 b4 x4 o4)
    | (have hchk := b5; clear hchk; go_at_call 37; refine (ratio_in _ _ _).mono ?_; rintro e w6 ⟨rfl, hb6⟩; have b6 := b5.trans (hb6.mono b5.size); have x6 := x5.below hb6; have o6 := o5.below hb6; clear hb6 b5 x5 o5))
  have bf := belowNew w6 (.cells #[.string (⟨#[45]⟩ ++ ten), .string ⟨#[49]⟩, .string ten, .string ⟨#[49]⟩, .string ⟨#[48]⟩, .string ⟨#[49]⟩, .string ⟨#[49]⟩, .string ⟨#[50]⟩, .func (.func 62) #[] #[]] 57)
  have kf := R9.new w6 57 (.string (⟨#[45]⟩ ++ ten)) (.string ⟨#[49]⟩) (.string ten) (.string ⟨#[49]⟩) (.string ⟨#[48]⟩) (.string ⟨#[49]⟩) (.string ⟨#[49]⟩) (.string ⟨#[50]⟩) (.func (.func 62) #[] #[])
  have hI : NoI w xa xb w6.heap.size (⟨#[45]⟩ ++ ten) ten _ := ⟨x6.below bf, o6.below bf, kf, b6.trans (bf.mono b6.size)⟩
  have j0 := hI.drew
  clear hI x6 o6 b6 bf kf
  generalize hF : w6.heap.size = R at *
  go_region_held3 (fun W => W.cell? ⟨w.heap.size, 0, none⟩ = some (.string xa) ∧ W.cell? ⟨w.heap.size, 1, none⟩ = some (.string xb) ∧ W.cell? ⟨R, 0, none⟩ = some (.string (⟨#[45]⟩ ++ ten)) ∧ W.cell? ⟨R, 1, none⟩ = some (.string ⟨#[49]⟩) ∧ W.cell? ⟨R, 2, none⟩ = some (.string ten) ∧ W.cell? ⟨R, 3, none⟩ = some (.string ⟨#[49]⟩) ∧ W.cell? ⟨R, 4, none⟩ = some (.string ⟨#[48]⟩) ∧ W.cell? ⟨R, 5, none⟩ = some (.string ⟨#[49]⟩) ∧ W.cell? ⟨R, 6, none⟩ = some (.string ⟨#[49]⟩) ∧ W.cell? ⟨R, 7, none⟩ = some (.string ⟨#[50]⟩) ∧ W.cell? ⟨R, 8, none⟩ = some (.func (.func 62) #[] #[]))
    (first
      | with_reducible exact ⟨j0.x.c00, j0.x.c01, j0.f.c0, j0.f.c1, j0.f.c2, j0.f.c3, j0.f.c4, j0.f.c5, j0.f.c6, j0.f.c7, j0.f.c8⟩
      | with_reducible exact ⟨j1.x.c00, j1.x.c01, j1.f.c0, j1.f.c1, j1.f.c2, j1.f.c3, j1.f.c4, j1.f.c5, j1.f.c6, j1.f.c7, j1.f.c8⟩
      | with_reducible exact ⟨j2.x.c00, j2.x.c01, j2.f.c0, j2.f.c1, j2.f.c2, j2.f.c3, j2.f.c4, j2.f.c5, j2.f.c6, j2.f.c7, j2.f.c8⟩
      | with_reducible exact ⟨j3.x.c00, j3.x.c01, j3.f.c0, j3.f.c1, j3.f.c2, j3.f.c3, j3.f.c4, j3.f.c5, j3.f.c6, j3.f.c7, j3.f.c8⟩
      | with_reducible exact ⟨j4.x.c00, j4.x.c01, j4.f.c0, j4.f.c1, j4.f.c2, j4.f.c3, j4.f.c4, j4.f.c5, j4.f.c6, j4.f.c7, j4.f.c8⟩
      | with_reducible exact ⟨j5.x.c00, j5.x.c01, j5.f.c0, j5.f.c1, j5.f.c2, j5.f.c3, j5.f.c4, j5.f.c5, j5.f.c6, j5.f.c7, j5.f.c8⟩) (first
    | (go_at_call 53; refine (HR.out (World.drew _) (ht.below j0.b)).mono ?_; rintro e w7 ⟨rfl, hb7⟩; have j1 := j0.below hb7; clear hb7)
    | (have hchk := j1; clear hchk; go_at_call 37; refine (ratio_in _ _ _).mono ?_; rintro e w8 ⟨rfl, hb8⟩; have j2 := j1.below hb8; clear hb8 j1)
    | (have hchk := j2; clear hchk; have HA := HC1; go_at_call 17; refine (HA.out _ (ht.below j2.b)).mono ?_; rintro e w9 ⟨rfl, hb9⟩; have j3 := j2.below hb9; clear hb9 HA HC1 j2)
    | (have hchk := j3; clear hchk; go_at_call 37; refine (ratio_in _ _ _).mono ?_; rintro e w10 ⟨rfl, hb10⟩; have j4 := j3.below hb10; clear hb10 j3)
    | (have hchk := j4; clear hchk; go_at_call 17; refine (HC2.out _ (ht.below j4.b)).mono ?_; rintro e w11 ⟨rfl, hb11⟩; have j5 := j4.below hb11; clear hb11 j4))
  have y0 := j5.x.c00
  have y1 := j5.x.c01
  have q0 := j5.f.c0
  have q1 := j5.f.c1
  have q2 := j5.f.c2
  have q3 := j5.f.c3
  have q4 := j5.f.c4
  have q5 := j5.f.c5
  have q6 := j5.f.c6
  have q7 := j5.f.c7
  have q8 := j5.f.c8
  go_wp2_with (first
    | (go_at_call 44; refine (HC.out _ j5.b).mono ?_; rintro e w12 ⟨rfl, hb12⟩; have j6 := j5.below hb12; have z0 := j6.o.c0; have z1 := j6.o.c1; have z2 := j6.o.c2; have z3 := j6.o.c3; have z4 := j6.o.f))
  have r5 := j6.o.put (.string c1) (.string c2) (.string c3) (.string c4)
  refine bodyPost_ret_by (v := .tuple #[.agg #[.string c1, .string c2, .string c3, .string c4], .int .i64 er]) (by simp [results, Tryz.f20, go_sem, r5.c0, r5.c1, r5.c2, r5.c3]) rfl ⟨rfl, below_put4 j6.b _ _ _ _ (by omega)⟩
end Go.Proofs.YtppbhnhmaocdnaaGreatDoor
namespace Go.Proofs.YtppbhnhmaocdnaaGreatDoor
open Go.RowKit Go.Shelf

noncomputable def findRegionB : Code → Nat → Option (Array Oper)
  | .region id ops _, n => if id == n then some ops else none
  | .seq a b, n => match findRegionB a n with | some o => some o | none => findRegionB b n
  | .cond _ a b, n => match findRegionB a n with | some o => some o | none => findRegionB b n
  | .block _ a, n => findRegionB a n
  | .loop a, n => findRegionB a n
  | _, _ => none
noncomputable def undRegOps : Array Oper := ((Tryz.f58.body.bind (findRegionB · 5)).getD #[])
set_option maxRecDepth 100000 in
set_option maxHeartbeats 8000000 in
theorem undReg (k : Int) (one n1 d1 n2 d2 s1 s2 q1 q2 : ByteArray) (bs bx bp : Nat) {u0 u1 u4 u5 u6 u7 u9 u10 u11 u12 u13 u14 u15 u16 u17 u18 u19 u20 u21 u22 u23 u24 u25 u26 u27 u28 u29 u30 u31 u32 u33 u34 u35 u36 u37 u38 u39 : Value} (V : World) (Q : Exit → Act → World → Prop)
    (h_bs : RC bs V (.int .i64 k) (.string one)) (h_bx : RC bx V (.string n1) (.string d1)) (h_bp : RC bp V (.string n2) (.string d2))
    (H0 : GivesC 62 #[.agg #[.int .i64 k, .string one], .agg #[.string n1, .string d1]] (.agg #[.string s1, .string s2]) V) (H1 : GivesC 43 #[.agg #[.int .i64 k, .string one], .agg #[.string n2, .string d2]] (.agg #[.string q1, .string q2]) V)
    (hP : ∀ (c : List PanicEntry) (a : Act) (d : Option Tmp) (v : Value) (W : World), Q (.panic c) (a.put d v) W → Q (.panic c) a W)
    (hQ : ∀ (To9 To10 : Nat) (F : World), RC To9 F (.string s1) (.string s2) → RC To10 F (.string q1) (.string q2) → V.heap.size ≤ To9 → V.heap.size ≤ To10 → Below V.heap.size V F → Q .normal { tmps := #[u0, u1, .pointer (some ⟨bx, 0, none⟩), .pointer (some ⟨bp, 0, none⟩), u4, u5, u6, u7, .pointer (some ⟨bs, 0, none⟩), .pointer (some ⟨To9, 0, none⟩), .pointer (some ⟨To10, 0, none⟩), u11, u12, u13, u14, u15, u16, u17, u18, .agg #[.int .i64 k, .string one], .agg #[.string n1, .string d1], .agg #[.string s1, .string s2], .agg #[.int .i64 k, .string one], .agg #[.string n2, .string d2], .agg #[.string q1, .string q2], u25, u26, u27, u28, u29, u30, u31, u32, u33, u34, u35, u36, u37, u38, u39], defers := [] } F) :
    (Code.region 5 undRegOps true).wp Tryz.prog Q { tmps := #[u0, u1, .pointer (some ⟨bx, 0, none⟩), .pointer (some ⟨bp, 0, none⟩), u4, u5, u6, u7, .pointer (some ⟨bs, 0, none⟩), u9, u10, u11, u12, u13, u14, u15, u16, u17, u18, u19, u20, u21, u22, u23, u24, u25, u26, u27, u28, u29, u30, u31, u32, u33, u34, u35, u36, u37, u38, u39], defers := [] } V := by
  have hSof : ∀ W, Below V.heap.size V W → (W.cell? ⟨bs, 0, none⟩ = some (.int .i64 k) ∧ W.cell? ⟨bs, 1, none⟩ = some (.string one) ∧ W.cell? ⟨bx, 0, none⟩ = some (.string n1) ∧ W.cell? ⟨bx, 1, none⟩ = some (.string d1) ∧ W.cell? ⟨bp, 0, none⟩ = some (.string n2) ∧ W.cell? ⟨bp, 1, none⟩ = some (.string d2)) := fun W hb => by
    have k_bs := h_bs.belowB hb (ltOf h_bs.c00)
    have k_bx := h_bx.belowB hb (ltOf h_bx.c00)
    have k_bp := h_bp.belowB hb (ltOf h_bp.c00)
    exact ⟨k_bs.c00, k_bs.c01, k_bx.c00, k_bx.c01, k_bp.c00, k_bp.c01⟩
  have HQ := Lib.hid hQ
  clear hQ
  refine wp_region_held_drew (S := fun W => W.cell? ⟨bs, 0, none⟩ = some (.int .i64 k) ∧ W.cell? ⟨bs, 1, none⟩ = some (.string one) ∧ W.cell? ⟨bx, 0, none⟩ = some (.string n1) ∧ W.cell? ⟨bx, 1, none⟩ = some (.string d1) ∧ W.cell? ⟨bp, 0, none⟩ = some (.string n2) ∧ W.cell? ⟨bp, 1, none⟩ = some (.string d2)) (by kernel_rfl) (hSof _ (Below.refl _ V).drew) (fun hHeld => ?_)
  have lv : Below V.heap.size V V.drew := (Below.refl _ V).drew
  generalize V.drew = X at *
  refine wpAnyH_take (i := 0) (oi := ⟨some 19, _, _, _, _, _⟩) (v := .agg #[.int .i64 k, .string one]) rfl (by kernel_rfl) (by kernel_rfl) (by kernel_rfl) (fun _ _ _ h => hP _ _ _ _ _ h) (Or.inl ⟨rfl, fun w' hSw => by (try dsimp only at hSw); go_simp; (try with_reducible rfl)⟩) (hSof _ lv) ?_
  try simp only [Act.put, qb25a, qb25z, qb25s]
  refine wpAnyH_take (i := 1) (oi := ⟨some 20, _, _, _, _, _⟩) (v := .agg #[.string n1, .string d1]) rfl (by kernel_rfl) (by kernel_rfl) (by kernel_rfl) (fun _ _ _ h => hP _ _ _ _ _ h) (Or.inl ⟨rfl, fun w' hSw => by (try dsimp only at hSw); go_simp; (try with_reducible rfl)⟩) (hSof _ lv) ?_
  try simp only [Act.put, qb25a, qb25z, qb25s]
  refine wpAnyH_take (i := 3) (oi := ⟨some 22, _, _, _, _, _⟩) (v := .agg #[.int .i64 k, .string one]) rfl (by kernel_rfl) (by kernel_rfl) (by kernel_rfl) (fun _ _ _ h => hP _ _ _ _ _ h) (Or.inl ⟨rfl, fun w' hSw => by (try dsimp only at hSw); go_simp; (try with_reducible rfl)⟩) (hSof _ lv) ?_
  try simp only [Act.put, qb25a, qb25z, qb25s]
  refine wpAnyH_take (i := 4) (oi := ⟨some 23, _, _, _, _, _⟩) (v := .agg #[.string n2, .string d2]) rfl (by kernel_rfl) (by kernel_rfl) (by kernel_rfl) (fun _ _ _ h => hP _ _ _ _ _ h) (Or.inl ⟨rfl, fun w' hSw => by (try dsimp only at hSw); go_simp; (try with_reducible rfl)⟩) (hSof _ lv) ?_
  try simp only [Act.put, qb25a, qb25z, qb25s]
  refine wpAnyH_ready (rs := [2, 6, 7]) (by kernel_rfl) (by simp) ?_
  refine AllReadyH.cons (o := ⟨some 21, _, _, _, _, _⟩) rfl (fun K hK => ?_) (AllReadyH.cons (o := ⟨some 9, _, _, _, _, _⟩) rfl (fun K hK => ?_) (AllReadyH.cons (o := ⟨some 10, _, _, _, _, _⟩) rfl (fun K hK => ?_) AllReadyH.nil))
  · go_simp
    refine (H0 _ lv).mono ?_
    rintro e Y ⟨rfl, hb⟩
    have lv := lv.trans (hb.mono lv.size)
    refine hK.out _ _ (hSof _ lv) (fun _ => ?_)
    clear hK K
    try simp only [Act.put, qb25a, qb25z, qb25s]
    obtain ⟨X, rfl⟩ : ∃ X, X = Y := ⟨_, rfl⟩
    refine wpAnyH_ready (rs := [5, 6, 7]) (by kernel_rfl) (by simp) ?_
    refine AllReadyH.cons (o := ⟨some 24, _, _, _, _, _⟩) rfl (fun K hK => ?_) (AllReadyH.cons (o := ⟨some 9, _, _, _, _, _⟩) rfl (fun K hK => ?_) (AllReadyH.cons (o := ⟨some 10, _, _, _, _, _⟩) rfl (fun K hK => ?_) AllReadyH.nil))
    · go_simp
      refine (H1 _ lv).mono ?_
      rintro e Y ⟨rfl, hb⟩
      have lv := lv.trans (hb.mono lv.size)
      refine hK.out _ _ (hSof _ lv) (fun _ => ?_)
      clear hK K
      try simp only [Act.put, qb25a, qb25z, qb25s]
      obtain ⟨X, rfl⟩ : ∃ X, X = Y := ⟨_, rfl⟩
      refine wpAnyH_ready (rs := [6, 7]) (by kernel_rfl) (by simp) ?_
      refine AllReadyH.cons (o := ⟨some 9, _, _, _, _, _⟩) rfl (fun K hK => ?_) (AllReadyH.cons (o := ⟨some 10, _, _, _, _, _⟩) rfl (fun K hK => ?_) AllReadyH.nil)
      · go_simp
        have bn := belowNew X (.cells #[.string ⟨#[]⟩, .string ⟨#[]⟩] 61)
        have ro9 := RC.new X 61 (.string ⟨#[]⟩) (.string ⟨#[]⟩)
        have hTo9 := lv.size
        have lv := lv.trans (bn.mono lv.size)
        refine hK.out _ _ (hSof _ lv) (fun _ => ?_)
        clear hK K bn
        try simp only [Act.put, qb25a, qb25z, qb25s]
        obtain ⟨To9, hToe⟩ : ∃ To, To = X.heap.size := ⟨_, rfl⟩
        rw [← hToe] at ro9 hTo9  ⊢
        clear hToe
        generalize X.alloc (.cells #[.string ⟨#[]⟩, .string ⟨#[]⟩] 61) = X at *
        refine wpAnyH_ready (rs := [7]) (by kernel_rfl) (by simp) ?_
        refine AllReadyH.cons (o := ⟨some 10, _, _, _, _, _⟩) rfl (fun K hK => ?_) AllReadyH.nil
        go_simp
        have bn := belowNew X (.cells #[.string ⟨#[]⟩, .string ⟨#[]⟩] 61)
        have ro10 := RC.new X 61 (.string ⟨#[]⟩) (.string ⟨#[]⟩)
        have hTo10 := lv.size
        have hne9 : To9 ≠ X.heap.size := Nat.ne_of_lt (ltOf ro9.c00)
        have hne10 := hne9.symm
        have ro9 := ro9.below bn
        have lv := lv.trans (bn.mono lv.size)
        refine hK.out _ _ (hSof _ lv) (fun _ => ?_)
        clear hK K bn
        try simp only [Act.put, qb25a, qb25z, qb25s]
        obtain ⟨To10, hToe⟩ : ∃ To, To = X.heap.size := ⟨_, rfl⟩
        rw [← hToe] at ro10 hTo10 hne9 hne10 ⊢
        clear hToe
        generalize X.alloc (.cells #[.string ⟨#[]⟩, .string ⟨#[]⟩] 61) = X at *
        refine wpAnyH_ready (rs := [8]) (by kernel_rfl) (by simp) ?_
        refine AllReadyH.cons (o := ⟨none, .store _ (.tmp 9) (.tmp 21), _, _, _, _⟩) rfl (fun K hK => ?_) AllReadyH.nil
        have c0 := ro9.c00
        have c1 := ro9.c01
        have f0 := ro9.f0
        go_simp
        have lv := Below.put2 lv hTo9 (.string s1) (.string s2)
        have ro10 := ro10.but ((But.set X To9 0 (.string s1)).trans (But.set _ To9 1 (.string s2))) hne10
        have ro9 := ro9.put (.string s1) (.string s2)
        refine hK.out _ _ (hSof _ lv) (fun _ => ?_)
        clear hK K c0 c1 f0
        try simp only [Act.put, qb25a, qb25z, qb25s]
        generalize ((X.setCell ⟨To9, 0, none⟩ (.string s1)).setCell ⟨To9, 1, none⟩ (.string s2)) = X at *
        refine wpAnyH_ready (rs := [9]) (by kernel_rfl) (by simp) ?_
        refine AllReadyH.cons (o := ⟨none, .store _ (.tmp 10) (.tmp 24), _, _, _, _⟩) rfl (fun K hK => ?_) AllReadyH.nil
        have c0 := ro10.c00
        have c1 := ro10.c01
        have f0 := ro10.f0
        go_simp
        have lv := Below.put2 lv hTo10 (.string q1) (.string q2)
        have ro9 := ro9.but ((But.set X To10 0 (.string q1)).trans (But.set _ To10 1 (.string q2))) hne9
        have ro10 := ro10.put (.string q1) (.string q2)
        refine hK.out _ _ (hSof _ lv) (fun _ => ?_)
        clear hK K c0 c1 f0
        try simp only [Act.put, qb25a, qb25z, qb25s]
        generalize ((X.setCell ⟨To10, 0, none⟩ (.string q1)).setCell ⟨To10, 1, none⟩ (.string q2)) = X at *
        refine wpAnyH_done (by kernel_rfl) ?_ _
        exact HQ.out _ _ _ ro9 ro10 hTo9 hTo10 lv
      · go_simp
        have bn := belowNew X (.cells #[.string ⟨#[]⟩, .string ⟨#[]⟩] 61)
        have ro10 := RC.new X 61 (.string ⟨#[]⟩) (.string ⟨#[]⟩)
        have hTo10 := lv.size
        have lv := lv.trans (bn.mono lv.size)
        refine hK.out _ _ (hSof _ lv) (fun _ => ?_)
        clear hK K bn
        try simp only [Act.put, qb25a, qb25z, qb25s]
        obtain ⟨To10, hToe⟩ : ∃ To, To = X.heap.size := ⟨_, rfl⟩
        rw [← hToe] at ro10 hTo10  ⊢
        clear hToe
        generalize X.alloc (.cells #[.string ⟨#[]⟩, .string ⟨#[]⟩] 61) = X at *
        refine wpAnyH_ready (rs := [6]) (by kernel_rfl) (by simp) ?_
        refine AllReadyH.cons (o := ⟨some 9, _, _, _, _, _⟩) rfl (fun K hK => ?_) AllReadyH.nil
        go_simp
        have bn := belowNew X (.cells #[.string ⟨#[]⟩, .string ⟨#[]⟩] 61)
        have ro9 := RC.new X 61 (.string ⟨#[]⟩) (.string ⟨#[]⟩)
        have hTo9 := lv.size
        have hne10 : To10 ≠ X.heap.size := Nat.ne_of_lt (ltOf ro10.c00)
        have hne9 := hne10.symm
        have ro10 := ro10.below bn
        have lv := lv.trans (bn.mono lv.size)
        refine hK.out _ _ (hSof _ lv) (fun _ => ?_)
        clear hK K bn
        try simp only [Act.put, qb25a, qb25z, qb25s]
        obtain ⟨To9, hToe⟩ : ∃ To, To = X.heap.size := ⟨_, rfl⟩
        rw [← hToe] at ro9 hTo9 hne9 hne10 ⊢
        clear hToe
        generalize X.alloc (.cells #[.string ⟨#[]⟩, .string ⟨#[]⟩] 61) = X at *
        refine wpAnyH_ready (rs := [8]) (by kernel_rfl) (by simp) ?_
        refine AllReadyH.cons (o := ⟨none, .store _ (.tmp 9) (.tmp 21), _, _, _, _⟩) rfl (fun K hK => ?_) AllReadyH.nil
        have c0 := ro9.c00
        have c1 := ro9.c01
        have f0 := ro9.f0
        go_simp
        have lv := Below.put2 lv hTo9 (.string s1) (.string s2)
        have ro10 := ro10.but ((But.set X To9 0 (.string s1)).trans (But.set _ To9 1 (.string s2))) hne10
        have ro9 := ro9.put (.string s1) (.string s2)
        refine hK.out _ _ (hSof _ lv) (fun _ => ?_)
        clear hK K c0 c1 f0
        try simp only [Act.put, qb25a, qb25z, qb25s]
        generalize ((X.setCell ⟨To9, 0, none⟩ (.string s1)).setCell ⟨To9, 1, none⟩ (.string s2)) = X at *
        refine wpAnyH_ready (rs := [9]) (by kernel_rfl) (by simp) ?_
        refine AllReadyH.cons (o := ⟨none, .store _ (.tmp 10) (.tmp 24), _, _, _, _⟩) rfl (fun K hK => ?_) AllReadyH.nil
        have c0 := ro10.c00
        have c1 := ro10.c01
        have f0 := ro10.f0
        go_simp
        have lv := Below.put2 lv hTo10 (.string q1) (.string q2)
        have ro9 := ro9.but ((But.set X To10 0 (.string q1)).trans (But.set _ To10 1 (.string q2))) hne9
        have ro10 := ro10.put (.string q1) (.string q2)
        refine hK.out _ _ (hSof _ lv) (fun _ => ?_)
        clear hK K c0 c1 f0
        try simp only [Act.put, qb25a, qb25z, qb25s]
        generalize ((X.setCell ⟨To10, 0, none⟩ (.string q1)).setCell ⟨To10, 1, none⟩ (.string q2)) = X at *
        refine wpAnyH_done (by kernel_rfl) ?_ _
        exact HQ.out _ _ _ ro9 ro10 hTo9 hTo10 lv
    · go_simp
      have bn := belowNew X (.cells #[.string ⟨#[]⟩, .string ⟨#[]⟩] 61)
      have ro9 := RC.new X 61 (.string ⟨#[]⟩) (.string ⟨#[]⟩)
      have hTo9 := lv.size
      have lv := lv.trans (bn.mono lv.size)
      refine hK.out _ _ (hSof _ lv) (fun _ => ?_)
      clear hK K bn
      try simp only [Act.put, qb25a, qb25z, qb25s]
      obtain ⟨To9, hToe⟩ : ∃ To, To = X.heap.size := ⟨_, rfl⟩
      rw [← hToe] at ro9 hTo9  ⊢
      clear hToe
      generalize X.alloc (.cells #[.string ⟨#[]⟩, .string ⟨#[]⟩] 61) = X at *
      refine wpAnyH_ready (rs := [5, 7]) (by kernel_rfl) (by simp) ?_
      refine AllReadyH.cons (o := ⟨some 24, _, _, _, _, _⟩) rfl (fun K hK => ?_) (AllReadyH.cons (o := ⟨some 10, _, _, _, _, _⟩) rfl (fun K hK => ?_) AllReadyH.nil)
      · go_simp
        refine (H1 _ lv).mono ?_
        rintro e Y ⟨rfl, hb⟩
        have lv := lv.trans (hb.mono lv.size)
        have ro9 := ro9.below hb
        refine hK.out _ _ (hSof _ lv) (fun _ => ?_)
        clear hK K
        try simp only [Act.put, qb25a, qb25z, qb25s]
        obtain ⟨X, rfl⟩ : ∃ X, X = Y := ⟨_, rfl⟩
        refine wpAnyH_ready (rs := [7]) (by kernel_rfl) (by simp) ?_
        refine AllReadyH.cons (o := ⟨some 10, _, _, _, _, _⟩) rfl (fun K hK => ?_) AllReadyH.nil
        go_simp
        have bn := belowNew X (.cells #[.string ⟨#[]⟩, .string ⟨#[]⟩] 61)
        have ro10 := RC.new X 61 (.string ⟨#[]⟩) (.string ⟨#[]⟩)
        have hTo10 := lv.size
        have hne9 : To9 ≠ X.heap.size := Nat.ne_of_lt (ltOf ro9.c00)
        have hne10 := hne9.symm
        have ro9 := ro9.below bn
        have lv := lv.trans (bn.mono lv.size)
        refine hK.out _ _ (hSof _ lv) (fun _ => ?_)
        clear hK K bn
        try simp only [Act.put, qb25a, qb25z, qb25s]
        obtain ⟨To10, hToe⟩ : ∃ To, To = X.heap.size := ⟨_, rfl⟩
        rw [← hToe] at ro10 hTo10 hne9 hne10 ⊢
        clear hToe
        generalize X.alloc (.cells #[.string ⟨#[]⟩, .string ⟨#[]⟩] 61) = X at *
        refine wpAnyH_ready (rs := [8]) (by kernel_rfl) (by simp) ?_
        refine AllReadyH.cons (o := ⟨none, .store _ (.tmp 9) (.tmp 21), _, _, _, _⟩) rfl (fun K hK => ?_) AllReadyH.nil
        have c0 := ro9.c00
        have c1 := ro9.c01
        have f0 := ro9.f0
        go_simp
        have lv := Below.put2 lv hTo9 (.string s1) (.string s2)
        have ro10 := ro10.but ((But.set X To9 0 (.string s1)).trans (But.set _ To9 1 (.string s2))) hne10
        have ro9 := ro9.put (.string s1) (.string s2)
        refine hK.out _ _ (hSof _ lv) (fun _ => ?_)
        clear hK K c0 c1 f0
        try simp only [Act.put, qb25a, qb25z, qb25s]
        generalize ((X.setCell ⟨To9, 0, none⟩ (.string s1)).setCell ⟨To9, 1, none⟩ (.string s2)) = X at *
        refine wpAnyH_ready (rs := [9]) (by kernel_rfl) (by simp) ?_
        refine AllReadyH.cons (o := ⟨none, .store _ (.tmp 10) (.tmp 24), _, _, _, _⟩) rfl (fun K hK => ?_) AllReadyH.nil
        have c0 := ro10.c00
        have c1 := ro10.c01
        have f0 := ro10.f0
        go_simp
        have lv := Below.put2 lv hTo10 (.string q1) (.string q2)
        have ro9 := ro9.but ((But.set X To10 0 (.string q1)).trans (But.set _ To10 1 (.string q2))) hne9
        have ro10 := ro10.put (.string q1) (.string q2)
        refine hK.out _ _ (hSof _ lv) (fun _ => ?_)
        clear hK K c0 c1 f0
        try simp only [Act.put, qb25a, qb25z, qb25s]
        generalize ((X.setCell ⟨To10, 0, none⟩ (.string q1)).setCell ⟨To10, 1, none⟩ (.string q2)) = X at *
        refine wpAnyH_done (by kernel_rfl) ?_ _
        exact HQ.out _ _ _ ro9 ro10 hTo9 hTo10 lv
      · go_simp
        have bn := belowNew X (.cells #[.string ⟨#[]⟩, .string ⟨#[]⟩] 61)
        have ro10 := RC.new X 61 (.string ⟨#[]⟩) (.string ⟨#[]⟩)
        have hTo10 := lv.size
        have hne9 : To9 ≠ X.heap.size := Nat.ne_of_lt (ltOf ro9.c00)
        have hne10 := hne9.symm
        have ro9 := ro9.below bn
        have lv := lv.trans (bn.mono lv.size)
        refine hK.out _ _ (hSof _ lv) (fun _ => ?_)
        clear hK K bn
        try simp only [Act.put, qb25a, qb25z, qb25s]
        obtain ⟨To10, hToe⟩ : ∃ To, To = X.heap.size := ⟨_, rfl⟩
        rw [← hToe] at ro10 hTo10 hne9 hne10 ⊢
        clear hToe
        generalize X.alloc (.cells #[.string ⟨#[]⟩, .string ⟨#[]⟩] 61) = X at *
        refine wpAnyH_ready (rs := [5]) (by kernel_rfl) (by simp) ?_
        refine AllReadyH.cons (o := ⟨some 24, _, _, _, _, _⟩) rfl (fun K hK => ?_) AllReadyH.nil
        go_simp
        refine (H1 _ lv).mono ?_
        rintro e Y ⟨rfl, hb⟩
        have lv := lv.trans (hb.mono lv.size)
        have ro9 := ro9.below hb
        have ro10 := ro10.below hb
        refine hK.out _ _ (hSof _ lv) (fun _ => ?_)
        clear hK K
        try simp only [Act.put, qb25a, qb25z, qb25s]
        obtain ⟨X, rfl⟩ : ∃ X, X = Y := ⟨_, rfl⟩
        refine wpAnyH_ready (rs := [8]) (by kernel_rfl) (by simp) ?_
        refine AllReadyH.cons (o := ⟨none, .store _ (.tmp 9) (.tmp 21), _, _, _, _⟩) rfl (fun K hK => ?_) AllReadyH.nil
        have c0 := ro9.c00
        have c1 := ro9.c01
        have f0 := ro9.f0
        go_simp
        have lv := Below.put2 lv hTo9 (.string s1) (.string s2)
        have ro10 := ro10.but ((But.set X To9 0 (.string s1)).trans (But.set _ To9 1 (.string s2))) hne10
        have ro9 := ro9.put (.string s1) (.string s2)
        refine hK.out _ _ (hSof _ lv) (fun _ => ?_)
        clear hK K c0 c1 f0
        try simp only [Act.put, qb25a, qb25z, qb25s]
        generalize ((X.setCell ⟨To9, 0, none⟩ (.string s1)).setCell ⟨To9, 1, none⟩ (.string s2)) = X at *
        refine wpAnyH_ready (rs := [9]) (by kernel_rfl) (by simp) ?_
        refine AllReadyH.cons (o := ⟨none, .store _ (.tmp 10) (.tmp 24), _, _, _, _⟩) rfl (fun K hK => ?_) AllReadyH.nil
        have c0 := ro10.c00
        have c1 := ro10.c01
        have f0 := ro10.f0
        go_simp
        have lv := Below.put2 lv hTo10 (.string q1) (.string q2)
        have ro9 := ro9.but ((But.set X To10 0 (.string q1)).trans (But.set _ To10 1 (.string q2))) hne9
        have ro10 := ro10.put (.string q1) (.string q2)
        refine hK.out _ _ (hSof _ lv) (fun _ => ?_)
        clear hK K c0 c1 f0
        try simp only [Act.put, qb25a, qb25z, qb25s]
        generalize ((X.setCell ⟨To10, 0, none⟩ (.string q1)).setCell ⟨To10, 1, none⟩ (.string q2)) = X at *
        refine wpAnyH_done (by kernel_rfl) ?_ _
        exact HQ.out _ _ _ ro9 ro10 hTo9 hTo10 lv
    · go_simp
      have bn := belowNew X (.cells #[.string ⟨#[]⟩, .string ⟨#[]⟩] 61)
      have ro10 := RC.new X 61 (.string ⟨#[]⟩) (.string ⟨#[]⟩)
      have hTo10 := lv.size
      have lv := lv.trans (bn.mono lv.size)
      refine hK.out _ _ (hSof _ lv) (fun _ => ?_)
      clear hK K bn
      try simp only [Act.put, qb25a, qb25z, qb25s]
      obtain ⟨To10, hToe⟩ : ∃ To, To = X.heap.size := ⟨_, rfl⟩
      rw [← hToe] at ro10 hTo10  ⊢
      clear hToe
      generalize X.alloc (.cells #[.string ⟨#[]⟩, .string ⟨#[]⟩] 61) = X at *
      refine wpAnyH_ready (rs := [5, 6]) (by kernel_rfl) (by simp) ?_
      refine AllReadyH.cons (o := ⟨some 24, _, _, _, _, _⟩) rfl (fun K hK => ?_) (AllReadyH.cons (o := ⟨some 9, _, _, _, _, _⟩) rfl (fun K hK => ?_) AllReadyH.nil)
      · go_simp
        refine (H1 _ lv).mono ?_
        rintro e Y ⟨rfl, hb⟩
        have lv := lv.trans (hb.mono lv.size)
        have ro10 := ro10.below hb
        refine hK.out _ _ (hSof _ lv) (fun _ => ?_)
        clear hK K
        try simp only [Act.put, qb25a, qb25z, qb25s]
        obtain ⟨X, rfl⟩ : ∃ X, X = Y := ⟨_, rfl⟩
        refine wpAnyH_ready (rs := [6]) (by kernel_rfl) (by simp) ?_
        refine AllReadyH.cons (o := ⟨some 9, _, _, _, _, _⟩) rfl (fun K hK => ?_) AllReadyH.nil
        go_simp
        have bn := belowNew X (.cells #[.string ⟨#[]⟩, .string ⟨#[]⟩] 61)
        have ro9 := RC.new X 61 (.string ⟨#[]⟩) (.string ⟨#[]⟩)
        have hTo9 := lv.size
        have hne10 : To10 ≠ X.heap.size := Nat.ne_of_lt (ltOf ro10.c00)
        have hne9 := hne10.symm
        have ro10 := ro10.below bn
        have lv := lv.trans (bn.mono lv.size)
        refine hK.out _ _ (hSof _ lv) (fun _ => ?_)
        clear hK K bn
        try simp only [Act.put, qb25a, qb25z, qb25s]
        obtain ⟨To9, hToe⟩ : ∃ To, To = X.heap.size := ⟨_, rfl⟩
        rw [← hToe] at ro9 hTo9 hne9 hne10 ⊢
        clear hToe
        generalize X.alloc (.cells #[.string ⟨#[]⟩, .string ⟨#[]⟩] 61) = X at *
        refine wpAnyH_ready (rs := [8]) (by kernel_rfl) (by simp) ?_
        refine AllReadyH.cons (o := ⟨none, .store _ (.tmp 9) (.tmp 21), _, _, _, _⟩) rfl (fun K hK => ?_) AllReadyH.nil
        have c0 := ro9.c00
        have c1 := ro9.c01
        have f0 := ro9.f0
        go_simp
        have lv := Below.put2 lv hTo9 (.string s1) (.string s2)
        have ro10 := ro10.but ((But.set X To9 0 (.string s1)).trans (But.set _ To9 1 (.string s2))) hne10
        have ro9 := ro9.put (.string s1) (.string s2)
        refine hK.out _ _ (hSof _ lv) (fun _ => ?_)
        clear hK K c0 c1 f0
        try simp only [Act.put, qb25a, qb25z, qb25s]
        generalize ((X.setCell ⟨To9, 0, none⟩ (.string s1)).setCell ⟨To9, 1, none⟩ (.string s2)) = X at *
        refine wpAnyH_ready (rs := [9]) (by kernel_rfl) (by simp) ?_
        refine AllReadyH.cons (o := ⟨none, .store _ (.tmp 10) (.tmp 24), _, _, _, _⟩) rfl (fun K hK => ?_) AllReadyH.nil
        have c0 := ro10.c00
        have c1 := ro10.c01
        have f0 := ro10.f0
        go_simp
        have lv := Below.put2 lv hTo10 (.string q1) (.string q2)
        have ro9 := ro9.but ((But.set X To10 0 (.string q1)).trans (But.set _ To10 1 (.string q2))) hne9
        have ro10 := ro10.put (.string q1) (.string q2)
        refine hK.out _ _ (hSof _ lv) (fun _ => ?_)
        clear hK K c0 c1 f0
        try simp only [Act.put, qb25a, qb25z, qb25s]
        generalize ((X.setCell ⟨To10, 0, none⟩ (.string q1)).setCell ⟨To10, 1, none⟩ (.string q2)) = X at *
        refine wpAnyH_done (by kernel_rfl) ?_ _
        exact HQ.out _ _ _ ro9 ro10 hTo9 hTo10 lv
      · go_simp
        have bn := belowNew X (.cells #[.string ⟨#[]⟩, .string ⟨#[]⟩] 61)
        have ro9 := RC.new X 61 (.string ⟨#[]⟩) (.string ⟨#[]⟩)
        have hTo9 := lv.size
        have hne10 : To10 ≠ X.heap.size := Nat.ne_of_lt (ltOf ro10.c00)
        have hne9 := hne10.symm
        have ro10 := ro10.below bn
        have lv := lv.trans (bn.mono lv.size)
        refine hK.out _ _ (hSof _ lv) (fun _ => ?_)
        clear hK K bn
        try simp only [Act.put, qb25a, qb25z, qb25s]
        obtain ⟨To9, hToe⟩ : ∃ To, To = X.heap.size := ⟨_, rfl⟩
        rw [← hToe] at ro9 hTo9 hne9 hne10 ⊢
        clear hToe
        generalize X.alloc (.cells #[.string ⟨#[]⟩, .string ⟨#[]⟩] 61) = X at *
        refine wpAnyH_ready (rs := [5]) (by kernel_rfl) (by simp) ?_
        refine AllReadyH.cons (o := ⟨some 24, _, _, _, _, _⟩) rfl (fun K hK => ?_) AllReadyH.nil
        go_simp
        refine (H1 _ lv).mono ?_
        rintro e Y ⟨rfl, hb⟩
        have lv := lv.trans (hb.mono lv.size)
        have ro9 := ro9.below hb
        have ro10 := ro10.below hb
        refine hK.out _ _ (hSof _ lv) (fun _ => ?_)
        clear hK K
        try simp only [Act.put, qb25a, qb25z, qb25s]
        obtain ⟨X, rfl⟩ : ∃ X, X = Y := ⟨_, rfl⟩
        refine wpAnyH_ready (rs := [8]) (by kernel_rfl) (by simp) ?_
        refine AllReadyH.cons (o := ⟨none, .store _ (.tmp 9) (.tmp 21), _, _, _, _⟩) rfl (fun K hK => ?_) AllReadyH.nil
        have c0 := ro9.c00
        have c1 := ro9.c01
        have f0 := ro9.f0
        go_simp
        have lv := Below.put2 lv hTo9 (.string s1) (.string s2)
        have ro10 := ro10.but ((But.set X To9 0 (.string s1)).trans (But.set _ To9 1 (.string s2))) hne10
        have ro9 := ro9.put (.string s1) (.string s2)
        refine hK.out _ _ (hSof _ lv) (fun _ => ?_)
        clear hK K c0 c1 f0
        try simp only [Act.put, qb25a, qb25z, qb25s]
        generalize ((X.setCell ⟨To9, 0, none⟩ (.string s1)).setCell ⟨To9, 1, none⟩ (.string s2)) = X at *
        refine wpAnyH_ready (rs := [9]) (by kernel_rfl) (by simp) ?_
        refine AllReadyH.cons (o := ⟨none, .store _ (.tmp 10) (.tmp 24), _, _, _, _⟩) rfl (fun K hK => ?_) AllReadyH.nil
        have c0 := ro10.c00
        have c1 := ro10.c01
        have f0 := ro10.f0
        go_simp
        have lv := Below.put2 lv hTo10 (.string q1) (.string q2)
        have ro9 := ro9.but ((But.set X To10 0 (.string q1)).trans (But.set _ To10 1 (.string q2))) hne9
        have ro10 := ro10.put (.string q1) (.string q2)
        refine hK.out _ _ (hSof _ lv) (fun _ => ?_)
        clear hK K c0 c1 f0
        try simp only [Act.put, qb25a, qb25z, qb25s]
        generalize ((X.setCell ⟨To10, 0, none⟩ (.string q1)).setCell ⟨To10, 1, none⟩ (.string q2)) = X at *
        refine wpAnyH_done (by kernel_rfl) ?_ _
        exact HQ.out _ _ _ ro9 ro10 hTo9 hTo10 lv
  · go_simp
    have bn := belowNew X (.cells #[.string ⟨#[]⟩, .string ⟨#[]⟩] 61)
    have ro9 := RC.new X 61 (.string ⟨#[]⟩) (.string ⟨#[]⟩)
    have hTo9 := lv.size
    have lv := lv.trans (bn.mono lv.size)
    refine hK.out _ _ (hSof _ lv) (fun _ => ?_)
    clear hK K bn
    try simp only [Act.put, qb25a, qb25z, qb25s]
    obtain ⟨To9, hToe⟩ : ∃ To, To = X.heap.size := ⟨_, rfl⟩
    rw [← hToe] at ro9 hTo9  ⊢
    clear hToe
    generalize X.alloc (.cells #[.string ⟨#[]⟩, .string ⟨#[]⟩] 61) = X at *
    refine wpAnyH_ready (rs := [2, 7]) (by kernel_rfl) (by simp) ?_
    refine AllReadyH.cons (o := ⟨some 21, _, _, _, _, _⟩) rfl (fun K hK => ?_) (AllReadyH.cons (o := ⟨some 10, _, _, _, _, _⟩) rfl (fun K hK => ?_) AllReadyH.nil)
    · go_simp
      refine (H0 _ lv).mono ?_
      rintro e Y ⟨rfl, hb⟩
      have lv := lv.trans (hb.mono lv.size)
      have ro9 := ro9.below hb
      refine hK.out _ _ (hSof _ lv) (fun _ => ?_)
      clear hK K
      try simp only [Act.put, qb25a, qb25z, qb25s]
      obtain ⟨X, rfl⟩ : ∃ X, X = Y := ⟨_, rfl⟩
      refine wpAnyH_ready (rs := [5, 7]) (by kernel_rfl) (by simp) ?_
      refine AllReadyH.cons (o := ⟨some 24, _, _, _, _, _⟩) rfl (fun K hK => ?_) (AllReadyH.cons (o := ⟨some 10, _, _, _, _, _⟩) rfl (fun K hK => ?_) AllReadyH.nil)
      · go_simp
        refine (H1 _ lv).mono ?_
        rintro e Y ⟨rfl, hb⟩
        have lv := lv.trans (hb.mono lv.size)
        have ro9 := ro9.below hb
        refine hK.out _ _ (hSof _ lv) (fun _ => ?_)
        clear hK K
        try simp only [Act.put, qb25a, qb25z, qb25s]
        obtain ⟨X, rfl⟩ : ∃ X, X = Y := ⟨_, rfl⟩
        refine wpAnyH_ready (rs := [7]) (by kernel_rfl) (by simp) ?_
        refine AllReadyH.cons (o := ⟨some 10, _, _, _, _, _⟩) rfl (fun K hK => ?_) AllReadyH.nil
        go_simp
        have bn := belowNew X (.cells #[.string ⟨#[]⟩, .string ⟨#[]⟩] 61)
        have ro10 := RC.new X 61 (.string ⟨#[]⟩) (.string ⟨#[]⟩)
        have hTo10 := lv.size
        have hne9 : To9 ≠ X.heap.size := Nat.ne_of_lt (ltOf ro9.c00)
        have hne10 := hne9.symm
        have ro9 := ro9.below bn
        have lv := lv.trans (bn.mono lv.size)
        refine hK.out _ _ (hSof _ lv) (fun _ => ?_)
        clear hK K bn
        try simp only [Act.put, qb25a, qb25z, qb25s]
        obtain ⟨To10, hToe⟩ : ∃ To, To = X.heap.size := ⟨_, rfl⟩
        rw [← hToe] at ro10 hTo10 hne9 hne10 ⊢
        clear hToe
        generalize X.alloc (.cells #[.string ⟨#[]⟩, .string ⟨#[]⟩] 61) = X at *
        refine wpAnyH_ready (rs := [8]) (by kernel_rfl) (by simp) ?_
        refine AllReadyH.cons (o := ⟨none, .store _ (.tmp 9) (.tmp 21), _, _, _, _⟩) rfl (fun K hK => ?_) AllReadyH.nil
        have c0 := ro9.c00
        have c1 := ro9.c01
        have f0 := ro9.f0
        go_simp
        have lv := Below.put2 lv hTo9 (.string s1) (.string s2)
        have ro10 := ro10.but ((But.set X To9 0 (.string s1)).trans (But.set _ To9 1 (.string s2))) hne10
        have ro9 := ro9.put (.string s1) (.string s2)
        refine hK.out _ _ (hSof _ lv) (fun _ => ?_)
        clear hK K c0 c1 f0
        try simp only [Act.put, qb25a, qb25z, qb25s]
        generalize ((X.setCell ⟨To9, 0, none⟩ (.string s1)).setCell ⟨To9, 1, none⟩ (.string s2)) = X at *
        refine wpAnyH_ready (rs := [9]) (by kernel_rfl) (by simp) ?_
        refine AllReadyH.cons (o := ⟨none, .store _ (.tmp 10) (.tmp 24), _, _, _, _⟩) rfl (fun K hK => ?_) AllReadyH.nil
        have c0 := ro10.c00
        have c1 := ro10.c01
        have f0 := ro10.f0
        go_simp
        have lv := Below.put2 lv hTo10 (.string q1) (.string q2)
        have ro9 := ro9.but ((But.set X To10 0 (.string q1)).trans (But.set _ To10 1 (.string q2))) hne9
        have ro10 := ro10.put (.string q1) (.string q2)
        refine hK.out _ _ (hSof _ lv) (fun _ => ?_)
        clear hK K c0 c1 f0
        try simp only [Act.put, qb25a, qb25z, qb25s]
        generalize ((X.setCell ⟨To10, 0, none⟩ (.string q1)).setCell ⟨To10, 1, none⟩ (.string q2)) = X at *
        refine wpAnyH_done (by kernel_rfl) ?_ _
        exact HQ.out _ _ _ ro9 ro10 hTo9 hTo10 lv
      · go_simp
        have bn := belowNew X (.cells #[.string ⟨#[]⟩, .string ⟨#[]⟩] 61)
        have ro10 := RC.new X 61 (.string ⟨#[]⟩) (.string ⟨#[]⟩)
        have hTo10 := lv.size
        have hne9 : To9 ≠ X.heap.size := Nat.ne_of_lt (ltOf ro9.c00)
        have hne10 := hne9.symm
        have ro9 := ro9.below bn
        have lv := lv.trans (bn.mono lv.size)
        refine hK.out _ _ (hSof _ lv) (fun _ => ?_)
        clear hK K bn
        try simp only [Act.put, qb25a, qb25z, qb25s]
        obtain ⟨To10, hToe⟩ : ∃ To, To = X.heap.size := ⟨_, rfl⟩
        rw [← hToe] at ro10 hTo10 hne9 hne10 ⊢
        clear hToe
        generalize X.alloc (.cells #[.string ⟨#[]⟩, .string ⟨#[]⟩] 61) = X at *
        refine wpAnyH_ready (rs := [5]) (by kernel_rfl) (by simp) ?_
        refine AllReadyH.cons (o := ⟨some 24, _, _, _, _, _⟩) rfl (fun K hK => ?_) AllReadyH.nil
        go_simp
        refine (H1 _ lv).mono ?_
        rintro e Y ⟨rfl, hb⟩
        have lv := lv.trans (hb.mono lv.size)
        have ro9 := ro9.below hb
        have ro10 := ro10.below hb
        refine hK.out _ _ (hSof _ lv) (fun _ => ?_)
        clear hK K
        try simp only [Act.put, qb25a, qb25z, qb25s]
        obtain ⟨X, rfl⟩ : ∃ X, X = Y := ⟨_, rfl⟩
        refine wpAnyH_ready (rs := [8]) (by kernel_rfl) (by simp) ?_
        refine AllReadyH.cons (o := ⟨none, .store _ (.tmp 9) (.tmp 21), _, _, _, _⟩) rfl (fun K hK => ?_) AllReadyH.nil
        have c0 := ro9.c00
        have c1 := ro9.c01
        have f0 := ro9.f0
        go_simp
        have lv := Below.put2 lv hTo9 (.string s1) (.string s2)
        have ro10 := ro10.but ((But.set X To9 0 (.string s1)).trans (But.set _ To9 1 (.string s2))) hne10
        have ro9 := ro9.put (.string s1) (.string s2)
        refine hK.out _ _ (hSof _ lv) (fun _ => ?_)
        clear hK K c0 c1 f0
        try simp only [Act.put, qb25a, qb25z, qb25s]
        generalize ((X.setCell ⟨To9, 0, none⟩ (.string s1)).setCell ⟨To9, 1, none⟩ (.string s2)) = X at *
        refine wpAnyH_ready (rs := [9]) (by kernel_rfl) (by simp) ?_
        refine AllReadyH.cons (o := ⟨none, .store _ (.tmp 10) (.tmp 24), _, _, _, _⟩) rfl (fun K hK => ?_) AllReadyH.nil
        have c0 := ro10.c00
        have c1 := ro10.c01
        have f0 := ro10.f0
        go_simp
        have lv := Below.put2 lv hTo10 (.string q1) (.string q2)
        have ro9 := ro9.but ((But.set X To10 0 (.string q1)).trans (But.set _ To10 1 (.string q2))) hne9
        have ro10 := ro10.put (.string q1) (.string q2)
        refine hK.out _ _ (hSof _ lv) (fun _ => ?_)
        clear hK K c0 c1 f0
        try simp only [Act.put, qb25a, qb25z, qb25s]
        generalize ((X.setCell ⟨To10, 0, none⟩ (.string q1)).setCell ⟨To10, 1, none⟩ (.string q2)) = X at *
        refine wpAnyH_done (by kernel_rfl) ?_ _
        exact HQ.out _ _ _ ro9 ro10 hTo9 hTo10 lv
    · go_simp
      have bn := belowNew X (.cells #[.string ⟨#[]⟩, .string ⟨#[]⟩] 61)
      have ro10 := RC.new X 61 (.string ⟨#[]⟩) (.string ⟨#[]⟩)
      have hTo10 := lv.size
      have hne9 : To9 ≠ X.heap.size := Nat.ne_of_lt (ltOf ro9.c00)
      have hne10 := hne9.symm
      have ro9 := ro9.below bn
      have lv := lv.trans (bn.mono lv.size)
      refine hK.out _ _ (hSof _ lv) (fun _ => ?_)
      clear hK K bn
      try simp only [Act.put, qb25a, qb25z, qb25s]
      obtain ⟨To10, hToe⟩ : ∃ To, To = X.heap.size := ⟨_, rfl⟩
      rw [← hToe] at ro10 hTo10 hne9 hne10 ⊢
      clear hToe
      generalize X.alloc (.cells #[.string ⟨#[]⟩, .string ⟨#[]⟩] 61) = X at *
      refine wpAnyH_ready (rs := [2]) (by kernel_rfl) (by simp) ?_
      refine AllReadyH.cons (o := ⟨some 21, _, _, _, _, _⟩) rfl (fun K hK => ?_) AllReadyH.nil
      go_simp
      refine (H0 _ lv).mono ?_
      rintro e Y ⟨rfl, hb⟩
      have lv := lv.trans (hb.mono lv.size)
      have ro9 := ro9.below hb
      have ro10 := ro10.below hb
      refine hK.out _ _ (hSof _ lv) (fun _ => ?_)
      clear hK K
      try simp only [Act.put, qb25a, qb25z, qb25s]
      obtain ⟨X, rfl⟩ : ∃ X, X = Y := ⟨_, rfl⟩
      refine wpAnyH_ready (rs := [5]) (by kernel_rfl) (by simp) ?_
      refine AllReadyH.cons (o := ⟨some 24, _, _, _, _, _⟩) rfl (fun K hK => ?_) AllReadyH.nil
      go_simp
      refine (H1 _ lv).mono ?_
      rintro e Y ⟨rfl, hb⟩
      have lv := lv.trans (hb.mono lv.size)
      have ro9 := ro9.below hb
      have ro10 := ro10.below hb
      refine hK.out _ _ (hSof _ lv) (fun _ => ?_)
      clear hK K
      try simp only [Act.put, qb25a, qb25z, qb25s]
      obtain ⟨X, rfl⟩ : ∃ X, X = Y := ⟨_, rfl⟩
      refine wpAnyH_ready (rs := [8]) (by kernel_rfl) (by simp) ?_
      refine AllReadyH.cons (o := ⟨none, .store _ (.tmp 9) (.tmp 21), _, _, _, _⟩) rfl (fun K hK => ?_) AllReadyH.nil
      have c0 := ro9.c00
      have c1 := ro9.c01
      have f0 := ro9.f0
      go_simp
      have lv := Below.put2 lv hTo9 (.string s1) (.string s2)
      have ro10 := ro10.but ((But.set X To9 0 (.string s1)).trans (But.set _ To9 1 (.string s2))) hne10
      have ro9 := ro9.put (.string s1) (.string s2)
      refine hK.out _ _ (hSof _ lv) (fun _ => ?_)
      clear hK K c0 c1 f0
      try simp only [Act.put, qb25a, qb25z, qb25s]
      generalize ((X.setCell ⟨To9, 0, none⟩ (.string s1)).setCell ⟨To9, 1, none⟩ (.string s2)) = X at *
      refine wpAnyH_ready (rs := [9]) (by kernel_rfl) (by simp) ?_
      refine AllReadyH.cons (o := ⟨none, .store _ (.tmp 10) (.tmp 24), _, _, _, _⟩) rfl (fun K hK => ?_) AllReadyH.nil
      have c0 := ro10.c00
      have c1 := ro10.c01
      have f0 := ro10.f0
      go_simp
      have lv := Below.put2 lv hTo10 (.string q1) (.string q2)
      have ro9 := ro9.but ((But.set X To10 0 (.string q1)).trans (But.set _ To10 1 (.string q2))) hne9
      have ro10 := ro10.put (.string q1) (.string q2)
      refine hK.out _ _ (hSof _ lv) (fun _ => ?_)
      clear hK K c0 c1 f0
      try simp only [Act.put, qb25a, qb25z, qb25s]
      generalize ((X.setCell ⟨To10, 0, none⟩ (.string q1)).setCell ⟨To10, 1, none⟩ (.string q2)) = X at *
      refine wpAnyH_done (by kernel_rfl) ?_ _
      exact HQ.out _ _ _ ro9 ro10 hTo9 hTo10 lv
  · go_simp
    have bn := belowNew X (.cells #[.string ⟨#[]⟩, .string ⟨#[]⟩] 61)
    have ro10 := RC.new X 61 (.string ⟨#[]⟩) (.string ⟨#[]⟩)
    have hTo10 := lv.size
    have lv := lv.trans (bn.mono lv.size)
    refine hK.out _ _ (hSof _ lv) (fun _ => ?_)
    clear hK K bn
    try simp only [Act.put, qb25a, qb25z, qb25s]
    obtain ⟨To10, hToe⟩ : ∃ To, To = X.heap.size := ⟨_, rfl⟩
    rw [← hToe] at ro10 hTo10  ⊢
    clear hToe
    generalize X.alloc (.cells #[.string ⟨#[]⟩, .string ⟨#[]⟩] 61) = X at *
    refine wpAnyH_ready (rs := [2, 6]) (by kernel_rfl) (by simp) ?_
    refine AllReadyH.cons (o := ⟨some 21, _, _, _, _, _⟩) rfl (fun K hK => ?_) (AllReadyH.cons (o := ⟨some 9, _, _, _, _, _⟩) rfl (fun K hK => ?_) AllReadyH.nil)
    · go_simp
      refine (H0 _ lv).mono ?_
      rintro e Y ⟨rfl, hb⟩
      have lv := lv.trans (hb.mono lv.size)
      have ro10 := ro10.below hb
      refine hK.out _ _ (hSof _ lv) (fun _ => ?_)
      clear hK K
      try simp only [Act.put, qb25a, qb25z, qb25s]
      obtain ⟨X, rfl⟩ : ∃ X, X = Y := ⟨_, rfl⟩
      refine wpAnyH_ready (rs := [5, 6]) (by kernel_rfl) (by simp) ?_
      refine AllReadyH.cons (o := ⟨some 24, _, _, _, _, _⟩) rfl (fun K hK => ?_) (AllReadyH.cons (o := ⟨some 9, _, _, _, _, _⟩) rfl (fun K hK => ?_) AllReadyH.nil)
      · go_simp
        refine (H1 _ lv).mono ?_
        rintro e Y ⟨rfl, hb⟩
        have lv := lv.trans (hb.mono lv.size)
        have ro10 := ro10.below hb
        refine hK.out _ _ (hSof _ lv) (fun _ => ?_)
        clear hK K
        try simp only [Act.put, qb25a, qb25z, qb25s]
        obtain ⟨X, rfl⟩ : ∃ X, X = Y := ⟨_, rfl⟩
        refine wpAnyH_ready (rs := [6]) (by kernel_rfl) (by simp) ?_
        refine AllReadyH.cons (o := ⟨some 9, _, _, _, _, _⟩) rfl (fun K hK => ?_) AllReadyH.nil
        go_simp
        have bn := belowNew X (.cells #[.string ⟨#[]⟩, .string ⟨#[]⟩] 61)
        have ro9 := RC.new X 61 (.string ⟨#[]⟩) (.string ⟨#[]⟩)
        have hTo9 := lv.size
        have hne10 : To10 ≠ X.heap.size := Nat.ne_of_lt (ltOf ro10.c00)
        have hne9 := hne10.symm
        have ro10 := ro10.below bn
        have lv := lv.trans (bn.mono lv.size)
        refine hK.out _ _ (hSof _ lv) (fun _ => ?_)
        clear hK K bn
        try simp only [Act.put, qb25a, qb25z, qb25s]
        obtain ⟨To9, hToe⟩ : ∃ To, To = X.heap.size := ⟨_, rfl⟩
        rw [← hToe] at ro9 hTo9 hne9 hne10 ⊢
        clear hToe
        generalize X.alloc (.cells #[.string ⟨#[]⟩, .string ⟨#[]⟩] 61) = X at *
        refine wpAnyH_ready (rs := [8]) (by kernel_rfl) (by simp) ?_
        refine AllReadyH.cons (o := ⟨none, .store _ (.tmp 9) (.tmp 21), _, _, _, _⟩) rfl (fun K hK => ?_) AllReadyH.nil
        have c0 := ro9.c00
        have c1 := ro9.c01
        have f0 := ro9.f0
        go_simp
        have lv := Below.put2 lv hTo9 (.string s1) (.string s2)
        have ro10 := ro10.but ((But.set X To9 0 (.string s1)).trans (But.set _ To9 1 (.string s2))) hne10
        have ro9 := ro9.put (.string s1) (.string s2)
        refine hK.out _ _ (hSof _ lv) (fun _ => ?_)
        clear hK K c0 c1 f0
        try simp only [Act.put, qb25a, qb25z, qb25s]
        generalize ((X.setCell ⟨To9, 0, none⟩ (.string s1)).setCell ⟨To9, 1, none⟩ (.string s2)) = X at *
        refine wpAnyH_ready (rs := [9]) (by kernel_rfl) (by simp) ?_
        refine AllReadyH.cons (o := ⟨none, .store _ (.tmp 10) (.tmp 24), _, _, _, _⟩) rfl (fun K hK => ?_) AllReadyH.nil
        have c0 := ro10.c00
        have c1 := ro10.c01
        have f0 := ro10.f0
        go_simp
        have lv := Below.put2 lv hTo10 (.string q1) (.string q2)
        have ro9 := ro9.but ((But.set X To10 0 (.string q1)).trans (But.set _ To10 1 (.string q2))) hne9
        have ro10 := ro10.put (.string q1) (.string q2)
        refine hK.out _ _ (hSof _ lv) (fun _ => ?_)
        clear hK K c0 c1 f0
        try simp only [Act.put, qb25a, qb25z, qb25s]
        generalize ((X.setCell ⟨To10, 0, none⟩ (.string q1)).setCell ⟨To10, 1, none⟩ (.string q2)) = X at *
        refine wpAnyH_done (by kernel_rfl) ?_ _
        exact HQ.out _ _ _ ro9 ro10 hTo9 hTo10 lv
      · go_simp
        have bn := belowNew X (.cells #[.string ⟨#[]⟩, .string ⟨#[]⟩] 61)
        have ro9 := RC.new X 61 (.string ⟨#[]⟩) (.string ⟨#[]⟩)
        have hTo9 := lv.size
        have hne10 : To10 ≠ X.heap.size := Nat.ne_of_lt (ltOf ro10.c00)
        have hne9 := hne10.symm
        have ro10 := ro10.below bn
        have lv := lv.trans (bn.mono lv.size)
        refine hK.out _ _ (hSof _ lv) (fun _ => ?_)
        clear hK K bn
        try simp only [Act.put, qb25a, qb25z, qb25s]
        obtain ⟨To9, hToe⟩ : ∃ To, To = X.heap.size := ⟨_, rfl⟩
        rw [← hToe] at ro9 hTo9 hne9 hne10 ⊢
        clear hToe
        generalize X.alloc (.cells #[.string ⟨#[]⟩, .string ⟨#[]⟩] 61) = X at *
        refine wpAnyH_ready (rs := [5]) (by kernel_rfl) (by simp) ?_
        refine AllReadyH.cons (o := ⟨some 24, _, _, _, _, _⟩) rfl (fun K hK => ?_) AllReadyH.nil
        go_simp
        refine (H1 _ lv).mono ?_
        rintro e Y ⟨rfl, hb⟩
        have lv := lv.trans (hb.mono lv.size)
        have ro9 := ro9.below hb
        have ro10 := ro10.below hb
        refine hK.out _ _ (hSof _ lv) (fun _ => ?_)
        clear hK K
        try simp only [Act.put, qb25a, qb25z, qb25s]
        obtain ⟨X, rfl⟩ : ∃ X, X = Y := ⟨_, rfl⟩
        refine wpAnyH_ready (rs := [8]) (by kernel_rfl) (by simp) ?_
        refine AllReadyH.cons (o := ⟨none, .store _ (.tmp 9) (.tmp 21), _, _, _, _⟩) rfl (fun K hK => ?_) AllReadyH.nil
        have c0 := ro9.c00
        have c1 := ro9.c01
        have f0 := ro9.f0
        go_simp
        have lv := Below.put2 lv hTo9 (.string s1) (.string s2)
        have ro10 := ro10.but ((But.set X To9 0 (.string s1)).trans (But.set _ To9 1 (.string s2))) hne10
        have ro9 := ro9.put (.string s1) (.string s2)
        refine hK.out _ _ (hSof _ lv) (fun _ => ?_)
        clear hK K c0 c1 f0
        try simp only [Act.put, qb25a, qb25z, qb25s]
        generalize ((X.setCell ⟨To9, 0, none⟩ (.string s1)).setCell ⟨To9, 1, none⟩ (.string s2)) = X at *
        refine wpAnyH_ready (rs := [9]) (by kernel_rfl) (by simp) ?_
        refine AllReadyH.cons (o := ⟨none, .store _ (.tmp 10) (.tmp 24), _, _, _, _⟩) rfl (fun K hK => ?_) AllReadyH.nil
        have c0 := ro10.c00
        have c1 := ro10.c01
        have f0 := ro10.f0
        go_simp
        have lv := Below.put2 lv hTo10 (.string q1) (.string q2)
        have ro9 := ro9.but ((But.set X To10 0 (.string q1)).trans (But.set _ To10 1 (.string q2))) hne9
        have ro10 := ro10.put (.string q1) (.string q2)
        refine hK.out _ _ (hSof _ lv) (fun _ => ?_)
        clear hK K c0 c1 f0
        try simp only [Act.put, qb25a, qb25z, qb25s]
        generalize ((X.setCell ⟨To10, 0, none⟩ (.string q1)).setCell ⟨To10, 1, none⟩ (.string q2)) = X at *
        refine wpAnyH_done (by kernel_rfl) ?_ _
        exact HQ.out _ _ _ ro9 ro10 hTo9 hTo10 lv
    · go_simp
      have bn := belowNew X (.cells #[.string ⟨#[]⟩, .string ⟨#[]⟩] 61)
      have ro9 := RC.new X 61 (.string ⟨#[]⟩) (.string ⟨#[]⟩)
      have hTo9 := lv.size
      have hne10 : To10 ≠ X.heap.size := Nat.ne_of_lt (ltOf ro10.c00)
      have hne9 := hne10.symm
      have ro10 := ro10.below bn
      have lv := lv.trans (bn.mono lv.size)
      refine hK.out _ _ (hSof _ lv) (fun _ => ?_)
      clear hK K bn
      try simp only [Act.put, qb25a, qb25z, qb25s]
      obtain ⟨To9, hToe⟩ : ∃ To, To = X.heap.size := ⟨_, rfl⟩
      rw [← hToe] at ro9 hTo9 hne9 hne10 ⊢
      clear hToe
      generalize X.alloc (.cells #[.string ⟨#[]⟩, .string ⟨#[]⟩] 61) = X at *
      refine wpAnyH_ready (rs := [2]) (by kernel_rfl) (by simp) ?_
      refine AllReadyH.cons (o := ⟨some 21, _, _, _, _, _⟩) rfl (fun K hK => ?_) AllReadyH.nil
      go_simp
      refine (H0 _ lv).mono ?_
      rintro e Y ⟨rfl, hb⟩
      have lv := lv.trans (hb.mono lv.size)
      have ro9 := ro9.below hb
      have ro10 := ro10.below hb
      refine hK.out _ _ (hSof _ lv) (fun _ => ?_)
      clear hK K
      try simp only [Act.put, qb25a, qb25z, qb25s]
      obtain ⟨X, rfl⟩ : ∃ X, X = Y := ⟨_, rfl⟩
      refine wpAnyH_ready (rs := [5]) (by kernel_rfl) (by simp) ?_
      refine AllReadyH.cons (o := ⟨some 24, _, _, _, _, _⟩) rfl (fun K hK => ?_) AllReadyH.nil
      go_simp
      refine (H1 _ lv).mono ?_
      rintro e Y ⟨rfl, hb⟩
      have lv := lv.trans (hb.mono lv.size)
      have ro9 := ro9.below hb
      have ro10 := ro10.below hb
      refine hK.out _ _ (hSof _ lv) (fun _ => ?_)
      clear hK K
      try simp only [Act.put, qb25a, qb25z, qb25s]
      obtain ⟨X, rfl⟩ : ∃ X, X = Y := ⟨_, rfl⟩
      refine wpAnyH_ready (rs := [8]) (by kernel_rfl) (by simp) ?_
      refine AllReadyH.cons (o := ⟨none, .store _ (.tmp 9) (.tmp 21), _, _, _, _⟩) rfl (fun K hK => ?_) AllReadyH.nil
      have c0 := ro9.c00
      have c1 := ro9.c01
      have f0 := ro9.f0
      go_simp
      have lv := Below.put2 lv hTo9 (.string s1) (.string s2)
      have ro10 := ro10.but ((But.set X To9 0 (.string s1)).trans (But.set _ To9 1 (.string s2))) hne10
      have ro9 := ro9.put (.string s1) (.string s2)
      refine hK.out _ _ (hSof _ lv) (fun _ => ?_)
      clear hK K c0 c1 f0
      try simp only [Act.put, qb25a, qb25z, qb25s]
      generalize ((X.setCell ⟨To9, 0, none⟩ (.string s1)).setCell ⟨To9, 1, none⟩ (.string s2)) = X at *
      refine wpAnyH_ready (rs := [9]) (by kernel_rfl) (by simp) ?_
      refine AllReadyH.cons (o := ⟨none, .store _ (.tmp 10) (.tmp 24), _, _, _, _⟩) rfl (fun K hK => ?_) AllReadyH.nil
      have c0 := ro10.c00
      have c1 := ro10.c01
      have f0 := ro10.f0
      go_simp
      have lv := Below.put2 lv hTo10 (.string q1) (.string q2)
      have ro9 := ro9.but ((But.set X To10 0 (.string q1)).trans (But.set _ To10 1 (.string q2))) hne9
      have ro10 := ro10.put (.string q1) (.string q2)
      refine hK.out _ _ (hSof _ lv) (fun _ => ?_)
      clear hK K c0 c1 f0
      try simp only [Act.put, qb25a, qb25z, qb25s]
      generalize ((X.setCell ⟨To10, 0, none⟩ (.string q1)).setCell ⟨To10, 1, none⟩ (.string q2)) = X at *
      refine wpAnyH_done (by kernel_rfl) ?_ _
      exact HQ.out _ _ _ ro9 ro10 hTo9 hTo10 lv

end Go.Proofs.YtppbhnhmaocdnaaGreatDoor
namespace Go.Proofs.YtppbhnhmaocdnaaGreatDoor
open Go.RowKit Go.Shelf

structure UndI (w : World) (n1 d1 n2 d2 : ByteArray) (W : World) : Prop where
  x : RC w.heap.size W (.string n1) (.string d1)
  p : RC (w.heap.size + 1) W (.string n2) (.string d2)
  b : Below w.heap.size w W
theorem UndI.below {w : World} {n1 d1 n2 d2 : ByteArray} {W W' : World} (h : UndI w n1 d1 n2 d2 W) (hb : Below W.heap.size W W') : UndI w n1 d1 n2 d2 W' := ⟨h.x.below hb, h.p.below hb, h.b.trans (hb.mono h.b.size)⟩

def undD (n q : Int × Int) : Option Bool := if cmpI n.2 q.1 < 0 then some true else if 0 < cmpI n.1 q.2 then some false else none
def UndPost (r : Bool) (w : World) (e : Ending) (w' : World) : Prop := e = .returned (.tuple #[.bool r, .int .i64 0]) ∧ Below w.heap.size w w'
structure UndAt (k : Nat) (x p n q : Int × Int) : Prop where
  hn : ∀ W, TabOf W → Calls Tryz.prog 62 #[SV k, NV x] W (NPost n W)
  ho : ∀ W, TabOf W → Calls Tryz.prog 43 #[SV k, NV p] W (NPost q W)
  fn : Fit n
  fq : Fit q

set_option maxRecDepth 100000 in
set_option maxHeartbeats 8000000 in
theorem und15_in (x p n q : Int × Int) (r : Bool) (w : World) (h : UndAt 15 x p n q) (hd : undD n q = some r) (ht : TabOf w) :
    Calls Tryz.prog 58 #[NV x, NV p] w (UndPost r w) := by
  have HN := h.hn
  have HO := h.ho
  have HC1 := fun W => cmp_in n.2 q.1 W h.fn.2 h.fq.1
  have HC2 := fun W => cmp_in n.1 q.2 W h.fn.1 h.fq.2
  have HAT := fun W => sat_in 15 (by decide) W
  unfold undD at hd
  clear h
  unfold NPost NV SV at HN HO
  unfold SV at HAT
  rw [show ((15 : Nat) : Int) = 15 from rfl] at HN HO HAT
  unfold UndPost NV
  generalize cmpI n.2 q.1 = c1 at *
  generalize cmpI n.1 q.2 = c2 at *
  generalize str ((10 ^ 15 : Nat) : Int) = one at *
  generalize str n.1 = na at *
  generalize str n.2 = nb at *
  generalize str q.1 = qa at *
  generalize str q.2 = qb at *
  generalize str x.1 = n1 at *
  generalize str x.2 = d1 at *
  generalize str p.1 = n2 at *
  generalize str p.2 = d2 at *
  have HN := Lib.hid HN
  have HO := Lib.hid HO
  have HC1 := Lib.hid HC1
  have HC2 := Lib.hid HC2
  have HAT := Lib.hid HAT
  have bn := belowNew w (.cells #[.string n1, .string d1] 25)
  have bn2 := belowNew (w.alloc (.cells #[.string n1, .string d1] 25)) (.cells #[.string n2, .string d2] 25)
  have p0 := RC.new (w.alloc (.cells #[.string n1, .string d1] 25)) 25 (.string n2) (.string d2)
  rw [sizeNew] at p0
  have hI : UndI w n1 d1 n2 d2 _ := ⟨(RC.new w 25 (.string n1) (.string d1)).below bn2, p0, bn.trans (bn2.mono bn.size)⟩
  clear bn bn2 p0
  have bn1 := belowNew ((w.alloc (.cells #[.string n1, .string d1] 25)).alloc (.cells #[.string n2, .string d2] 25)) (.cells #[.int .i64 15, .int .i64 50] 3)
  have i2 := hI.below bn1
  have s0 := cellAt ((w.alloc (.cells #[.string n1, .string d1] 25)).alloc (.cells #[.string n2, .string d2] 25)) #[.int .i64 15, .int .i64 50] 3 0 _ rfl
  rw [sizeNew, sizeNew] at s0
  clear hI bn1
  go_enter Tryz.func58, Tryz.ntmps58
  go_wp2
  go_loopw [13] (fun i W => i = .int .i64 0 ∧ UndI w n1 d1 n2 d2 W ∧ W.cell? ⟨w.heap.size + 1 + 1, 0, none⟩ = some (.int .i64 15)) (fun _ _ => 0)
  case atStart => exact ⟨rfl, i2, s0⟩
  case round =>
    obtain ⟨rfl, j0, s0⟩ := hrel
    clear i2
    go_wp2_with (first
      | (go_at_call 46; refine (HAT.out _).mono ?_; rintro e w2 ⟨rfl, hb2⟩; have bn2 := belowNew w2 (.cells #[.int .i64 15, .string one] 59); have j2 := (j0.below hb2).below bn2; have sc2 := RC.new w2 59 (.int .i64 15) (.string one)))
    refine undReg (h_bs := sc2) (h_bx := j2.x) (h_bp := j2.p) (H0 := fun V hV => HN.out V (ht.below (j2.b.trans (hV.mono j2.b.size)))) (H1 := fun V hV => HO.out V (ht.below (j2.b.trans (hV.mono j2.b.size)))) (hP := ?hP) (hQ := ?hQ)
    case hP => exact fun _ _ d _ _ h => by cases d <;> exact h
    case hQ =>
      intro Tn Tq F rn rq hTn hTq hlF
      have b3 := j2.b.trans (hlF.mono j2.b.size)
      have y0 := rn.c00
      have y1 := rn.c01
      have y2 := rq.c00
      have y3 := rq.c01
      clear HN HO HAT j0 s0 sc2 bn2 hb2
      by_cases hc1 : c1 < 0
      · have d1 : decide (c1 < 0) = true := decide_eq_true hc1
        have hr : r = true := by rw [if_pos hc1] at hd; exact (Option.some.inj hd).symm
        subst hr
        clear hd
        go_wp2_with (first
          | (go_at_call 52; refine (HC1.out _).mono ?_; rintro e w5 ⟨rfl, hb5⟩; have b5 := b3.trans (hb5.mono b3.size)))
        refine bodyPost_ret_by (v := .tuple #[.bool true, .int .i64 0]) (by simp [results, Tryz.f58, go_sem]) rfl ⟨rfl, b5⟩
      · have d1 : decide (c1 < 0) = false := decide_eq_false hc1
        rw [if_neg hc1] at hd
        have hc2 : 0 < c2 := by
          rcases Int.lt_or_le 0 c2 with h | h
          · exact h
          · rw [if_neg (by omega)] at hd; cases hd
        have d2 : decide (0 < c2) = true := decide_eq_true hc2
        have hr : r = false := by rw [if_pos hc2] at hd; exact (Option.some.inj hd).symm
        subst hr
        clear hd
        go_wp2_with (first
          | (have HA := HC1; go_at_call 52; refine (HA.out _).mono ?_; clear HA HC1; rintro e w5 ⟨rfl, hb5⟩; have b5 := b3.trans (hb5.mono b3.size); have r5 := rn.below hb5; have t5 := rq.below hb5; have z0 := r5.c00; have z1 := r5.c01; have z2 := t5.c00; have z3 := t5.c01)
          | (go_at_call 52; refine (HC2.out _).mono ?_; rintro e w6 ⟨rfl, hb6⟩; have b6 := b5.trans (hb6.mono b5.size)))
        refine bodyPost_ret_by (v := .tuple #[.bool false, .int .i64 0]) (by simp [results, Tryz.f58, go_sem]) rfl ⟨rfl, b6⟩
end Go.Proofs.YtppbhnhmaocdnaaGreatDoor
namespace Go.Proofs.YtppbhnhmaocdnaaGreatDoor
open Go.RowKit Go.Shelf

end Go.Proofs.YtppbhnhmaocdnaaGreatDoor
