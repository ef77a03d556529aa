/- Walks and lemmas: Series: first term and sum, in whatever order. PRINTED by wip/gq.py. artanh. exp. halfNormal. normal. -/
import Derived.Test.YtppbhnhmaocdnaaGreatDoorB22
set_option linter.unusedVariables false
set_option linter.unusedSimpArgs false
namespace Go.Proofs.YtppbhnhmaocdnaaGreatDoor
theorem qb23a {α : Type _} (l : List α) (i : Nat) (a : α) : l.toArray.setIfInBounds i a = (l.set i a).toArray := List.setIfInBounds_toArray ..
theorem qb23z {α : Type _} {x : α} {xs : List α} {a : α} : (x :: xs).set 0 a = a :: xs := rfl
theorem qb23s {α : Type _} {x : α} {xs : List α} {i : Nat} {a : α} : (x :: xs).set (i + 1) a = x :: xs.set i a := rfl
open Go.RowKit Go.Shelf

def TermsC (s1 s2 : ByteArray) (fv : Value) : Prop := ∀ V : World, Calls Tryz.prog 86 #[.agg #[.string s1, .string s2], fv] V fun e w' => e = .returned (.func (.func 128) #[] #[.pointer (some ⟨V.heap.size, 0, none⟩), .pointer (some ⟨V.heap.size + 1, 0, none⟩)]) ∧
  Below V.heap.size V w' ∧ w'.heap[V.heap.size]? = some (.cells #[.string s1, .string s2] 61) ∧ w'.heap[V.heap.size + 1]? = some (.cells #[fv] 109) ∧ w'.heap.size = V.heap.size + 2
def SumC2 (k : Int) (one s1 s2 q1 q2 : ByteArray) (fv : Value) (V0 : World) : Prop := ∀ (V : World) (b1 b2 : Nat), Below V0.heap.size V0 V → b1 < V.heap.size → b2 < V.heap.size → V.heap[b1]? = some (.cells #[.string s1, .string s2] 61) → V.heap[b2]? = some (.cells #[fv] 109) →
  Calls Tryz.prog 85 #[.agg #[.int .i64 k, .string one], .func (.func 128) #[] #[.pointer (some ⟨b1, 0, none⟩), .pointer (some ⟨b2, 0, none⟩)]] V fun e w' => e = .returned (.agg #[.string q1, .string q2]) ∧ Below V.heap.size V w'
def WholeC (k n : Int) (one s1 s2 : ByteArray) (V0 : World) : Prop := ∀ V : World, Below V0.heap.size V0 V → Calls Tryz.prog 41 #[.agg #[.int .i64 k, .string one], .int .i64 n] V fun e w' => e = .returned (.agg #[.string s1, .string s2]) ∧ Below V.heap.size V w'

theorem termsC (t0 : Int × Int) (fn : Fn) (a b : Array Value) : TermsC (str t0.1) (str t0.2) (.func fn a b) := fun V => terms_in (.func fn a b) t0 ⟨fn, a, b, rfl⟩ V
theorem sumC2 (k : Nat) (hk : k ≤ 150) (g : Nat) (caps : Array Value) (t : Nat → Int × Int) (M : Nat) (V0 : World) (ht : ∀ V, Below V0.heap.size V0 V → TabOf V) (hS : SumB t M)
    (eg : ∀ args w, (callFunc g args).run Tryz.prog w = .ok (.enter g args) w)
    (hnext : ∀ i, i < M → ∀ A, Below V0.heap.size V0 A → Calls Tryz.prog g (#[NV (t i), .int .i64 ((i : Int) + 1)] ++ caps) A fun e A' => e = .returned (NV (t (i + 1))) ∧ Below A.heap.size A A') :
    SumC2 k (str ((10 ^ k : Nat) : Int)) (str (t 0).1) (str (t 0).2) (str (sumP t M).1) (str (sumP t M).2) (.func (.func g) #[] caps) V0 :=
  fun V b1 b2 hV h1 h2 c1 c2 => sum_in k hk g caps t M b1 b2 V (ht V hV) hS eg h1 h2 c1 c2 (fun i hi A hA => hnext i hi A (hV.trans (hA.mono hV.size)))

theorem Below.put2 {B : Nat} {A W : World} (h : Below B A W) {R : Nat} (hR : B ≤ R) (x y : Value) : Below B A ((W.setCell ⟨R, 0, none⟩ x).setCell ⟨R, 1, none⟩ y) :=
  (h.setCell (p := ⟨R, 0, none⟩) hR _).setCell (p := ⟨R, 1, none⟩) hR _


noncomputable def artRegOps : Array Oper := ((Tryz.f90.body.bind (findRegion · 2)).getD #[])
set_option maxRecDepth 100000 in
set_option maxHeartbeats 8000000 in
theorem artReg (k : Int) (one s1 s2 q1 q2 : ByteArray) (bs bf bx : Nat) {u0 u1 u4 u6 u7 u8 u9 u10 u11 u12 u13 u14 u15 u16 u17 u18 : Value} (V : World) (Q : Exit → Act → World → Prop)
    (hs : RC bs V (.int .i64 k) (.string one)) (hf : RC bf V (.string s1) (.string s2))
    (HT : TermsC s1 s2 (.func (.func 132) #[] #[.pointer (some ⟨bs, 0, none⟩), .pointer (some ⟨bx, 0, none⟩)])) (HS : SumC2 k one s1 s2 q1 q2 (.func (.func 132) #[] #[.pointer (some ⟨bs, 0, none⟩), .pointer (some ⟨bx, 0, none⟩)]) V)
    (hP : ∀ (c : List PanicEntry) (a : Act) (d : Option Tmp) (v : Value) (W : World), Q (.panic c) (a.put d v) W → Q (.panic c) a W)
    (hQ : ∀ (To : Nat) (x : Value) (F : World), RC To F (.string q1) (.string q2) → V.heap.size ≤ To → Below V.heap.size V F → Q .normal { tmps := #[u0, u1, .pointer (some ⟨bs, 0, none⟩), .pointer (some ⟨bf, 0, none⟩), u4, .pointer (some ⟨bx, 0, none⟩), .pointer (some ⟨To, 0, none⟩), u7, u8, u9, u10, .agg #[.int .i64 k, .string one], .agg #[.string s1, .string s2], .func (.func 132) #[] #[.pointer (some ⟨bs, 0, none⟩), .pointer (some ⟨bx, 0, none⟩)], x, .agg #[.string q1, .string q2], u16, u17, u18], defers := [] } F) :
    (Code.region 2 artRegOps true).wp Tryz.prog Q { tmps := #[u0, u1, .pointer (some ⟨bs, 0, none⟩), .pointer (some ⟨bf, 0, none⟩), u4, .pointer (some ⟨bx, 0, none⟩), u6, u7, u8, u9, u10, u11, u12, u13, u14, u15, u16, u17, u18], defers := [] } V := by
  have hmf : ∀ (fn : Fn) (first cap : Array Value) (w : World), (Instr.makeFunc fn first cap).run Tryz.prog w = .ok (.func fn first cap) w := fun _ _ _ _ => rfl
  have hSof : ∀ W, Below V.heap.size V W → (W.cell? ⟨bs, 0, none⟩ = some (.int .i64 k) ∧ W.cell? ⟨bs, 1, none⟩ = some (.string one) ∧ W.cell? ⟨bf, 0, none⟩ = some (.string s1) ∧ W.cell? ⟨bf, 1, none⟩ = some (.string s2)) := fun W hb => by
    have ks := hs.belowB hb (ltOf hs.c00)
    have kf := hf.belowB hb (ltOf hf.c00)
    exact ⟨ks.c00, ks.c01, kf.c00, kf.c01⟩
  have HQ := Lib.hid hQ
  clear hQ
  refine wp_region_held_drew (S := fun W => W.cell? ⟨bs, 0, none⟩ = some (.int .i64 k) ∧ W.cell? ⟨bs, 1, none⟩ = some (.string one) ∧ W.cell? ⟨bf, 0, none⟩ = some (.string s1) ∧ W.cell? ⟨bf, 1, none⟩ = some (.string s2)) (by kernel_rfl) (hSof _ (Below.refl _ V).drew) (fun hHeld => ?_)
  have lv : Below V.heap.size V V.drew := (Below.refl _ V).drew
  generalize V.drew = X at *
  refine wpAnyH_take (i := 0) (oi := ⟨some 11, _, _, _, _, _⟩) (v := .agg #[.int .i64 k, .string one]) rfl (by kernel_rfl) (by kernel_rfl) (by kernel_rfl) (fun _ _ _ h => hP _ _ _ _ _ h) (Or.inl ⟨rfl, fun w' hSw => by (try dsimp only at hSw); go_simp; (try with_reducible rfl)⟩) (hSof _ lv) ?_
  try simp only [Act.put, qb23a, qb23z, qb23s]
  refine wpAnyH_take (i := 1) (oi := ⟨some 12, _, _, _, _, _⟩) (v := .agg #[.string s1, .string s2]) rfl (by kernel_rfl) (by kernel_rfl) (by kernel_rfl) (fun _ _ _ h => hP _ _ _ _ _ h) (Or.inl ⟨rfl, fun w' hSw => by (try dsimp only at hSw); go_simp; (try with_reducible rfl)⟩) (hSof _ lv) ?_
  try simp only [Act.put, qb23a, qb23z, qb23s]
  refine wpAnyH_take (i := 2) (oi := ⟨some 13, _, _, _, _, _⟩) (v := .func (.func 132) #[] #[.pointer (some ⟨bs, 0, none⟩), .pointer (some ⟨bx, 0, none⟩)]) rfl (by kernel_rfl) (by kernel_rfl) (by kernel_rfl) (fun _ _ _ h => hP _ _ _ _ _ h) (Or.inl ⟨rfl, fun w' hSw => by (try dsimp only at hSw); go_simp; (try with_reducible rfl)⟩) (hSof _ lv) ?_
  try simp only [Act.put, qb23a, qb23z, qb23s]
  refine wpAnyH_ready (rs := [3, 5]) (by kernel_rfl) (by simp) ?_
  refine AllReadyH.cons (o := ⟨some 14, _, _, _, _, _⟩) rfl (fun K hK => ?_) (AllReadyH.cons (o := ⟨some 6, _, _, _, _, _⟩) rfl (fun K hK => ?_) AllReadyH.nil)
  · go_simp
    refine (HT _).mono ?_
    rintro e Y ⟨rfl, hb, hc1, hc2, hsz⟩
    have lv := lv.trans (hb.mono lv.size)
    have hB1 : X.heap.size + 1 < Y.heap.size := by omega
    clear hsz
    refine hK.out _ _ (hSof _ lv) (fun _ => ?_)
    clear hK K
    try simp only [Act.put, qb23a, qb23z, qb23s]
    obtain ⟨X, rfl⟩ : ∃ X, X = Y := ⟨_, rfl⟩
    refine wpAnyH_ready (rs := [4, 5]) (by kernel_rfl) (by simp) ?_
    refine AllReadyH.cons (o := ⟨some 15, _, _, _, _, _⟩) rfl (fun K hK => ?_) (AllReadyH.cons (o := ⟨some 6, _, _, _, _, _⟩) rfl (fun K hK => ?_) AllReadyH.nil)
    · go_simp
      refine (HS _ _ _ lv (Nat.lt_of_succ_lt hB1) hB1 hc1 hc2).mono ?_
      rintro e Y ⟨rfl, hb⟩
      have lv := lv.trans (hb.mono lv.size)
      refine hK.out _ _ (hSof _ lv) (fun _ => ?_)
      clear hK K
      try simp only [Act.put, qb23a, qb23z, qb23s]
      obtain ⟨X, rfl⟩ : ∃ X, X = Y := ⟨_, rfl⟩
      refine wpAnyH_ready (rs := [5]) (by kernel_rfl) (by simp) ?_
      refine AllReadyH.cons (o := ⟨some 6, _, _, _, _, _⟩) rfl (fun K hK => ?_) AllReadyH.nil
      go_simp
      have bn := belowNew X (.cells #[.string ⟨#[]⟩, .string ⟨#[]⟩] 61)
      have ro := RC.new X 61 (.string ⟨#[]⟩) (.string ⟨#[]⟩)
      have hTo := lv.size
      have lv := lv.trans (bn.mono lv.size)
      refine hK.out _ _ (hSof _ lv) (fun _ => ?_)
      clear hK K bn
      try simp only [Act.put, qb23a, qb23z, qb23s]
      obtain ⟨To, hToe⟩ : ∃ To, To = X.heap.size := ⟨_, rfl⟩
      rw [← hToe] at ro hTo ⊢
      clear hToe
      generalize X.alloc (.cells #[.string ⟨#[]⟩, .string ⟨#[]⟩] 61) = X at *
      refine wpAnyH_ready (rs := [6]) (by kernel_rfl) (by simp) ?_
      refine AllReadyH.cons (o := ⟨none, .store _ (.tmp 6) (.tmp 15), _, _, _, _⟩) rfl (fun K hK => ?_) AllReadyH.nil
      have c0 := ro.c00
      have c1 := ro.c01
      have f0 := ro.f0
      go_simp
      have lv := Below.put2 lv hTo (.string q1) (.string q2)
      have ro := ro.put (.string q1) (.string q2)
      refine hK.out _ _ (hSof _ lv) (fun _ => ?_)
      clear hK K
      try simp only [Act.put, qb23a, qb23z, qb23s]
      refine wpAnyH_done (by kernel_rfl) ?_ _
      exact HQ.out _ _ _ ro hTo lv
    · go_simp
      have bn := belowNew X (.cells #[.string ⟨#[]⟩, .string ⟨#[]⟩] 61)
      have ro := RC.new X 61 (.string ⟨#[]⟩) (.string ⟨#[]⟩)
      have hTo := lv.size
      have lv := lv.trans (bn.mono lv.size)
      have hc1 := (bn.block _ (Nat.lt_of_succ_lt hB1)).trans hc1
      have hc2 := (bn.block _ hB1).trans hc2
      have hB1 := Nat.lt_of_lt_of_le hB1 bn.size
      refine hK.out _ _ (hSof _ lv) (fun _ => ?_)
      clear hK K bn
      try simp only [Act.put, qb23a, qb23z, qb23s]
      obtain ⟨To, hToe⟩ : ∃ To, To = X.heap.size := ⟨_, rfl⟩
      rw [← hToe] at ro hTo ⊢
      clear hToe
      generalize X.alloc (.cells #[.string ⟨#[]⟩, .string ⟨#[]⟩] 61) = X at *
      refine wpAnyH_ready (rs := [4]) (by kernel_rfl) (by simp) ?_
      refine AllReadyH.cons (o := ⟨some 15, _, _, _, _, _⟩) rfl (fun K hK => ?_) AllReadyH.nil
      go_simp
      refine (HS _ _ _ lv (Nat.lt_of_succ_lt hB1) hB1 hc1 hc2).mono ?_
      rintro e Y ⟨rfl, hb⟩
      have lv := lv.trans (hb.mono lv.size)
      have ro := ro.below hb
      refine hK.out _ _ (hSof _ lv) (fun _ => ?_)
      clear hK K
      try simp only [Act.put, qb23a, qb23z, qb23s]
      obtain ⟨X, rfl⟩ : ∃ X, X = Y := ⟨_, rfl⟩
      refine wpAnyH_ready (rs := [6]) (by kernel_rfl) (by simp) ?_
      refine AllReadyH.cons (o := ⟨none, .store _ (.tmp 6) (.tmp 15), _, _, _, _⟩) rfl (fun K hK => ?_) AllReadyH.nil
      have c0 := ro.c00
      have c1 := ro.c01
      have f0 := ro.f0
      go_simp
      have lv := Below.put2 lv hTo (.string q1) (.string q2)
      have ro := ro.put (.string q1) (.string q2)
      refine hK.out _ _ (hSof _ lv) (fun _ => ?_)
      clear hK K
      try simp only [Act.put, qb23a, qb23z, qb23s]
      refine wpAnyH_done (by kernel_rfl) ?_ _
      exact HQ.out _ _ _ ro hTo lv
  · go_simp
    have bn := belowNew X (.cells #[.string ⟨#[]⟩, .string ⟨#[]⟩] 61)
    have ro := RC.new X 61 (.string ⟨#[]⟩) (.string ⟨#[]⟩)
    have hTo := lv.size
    have lv := lv.trans (bn.mono lv.size)
    refine hK.out _ _ (hSof _ lv) (fun _ => ?_)
    clear hK K bn
    try simp only [Act.put, qb23a, qb23z, qb23s]
    obtain ⟨To, hToe⟩ : ∃ To, To = X.heap.size := ⟨_, rfl⟩
    rw [← hToe] at ro hTo ⊢
    clear hToe
    generalize X.alloc (.cells #[.string ⟨#[]⟩, .string ⟨#[]⟩] 61) = X at *
    refine wpAnyH_ready (rs := [3]) (by kernel_rfl) (by simp) ?_
    refine AllReadyH.cons (o := ⟨some 14, _, _, _, _, _⟩) rfl (fun K hK => ?_) AllReadyH.nil
    go_simp
    refine (HT _).mono ?_
    rintro e Y ⟨rfl, hb, hc1, hc2, hsz⟩
    have lv := lv.trans (hb.mono lv.size)
    have ro := ro.below hb
    have hB1 : X.heap.size + 1 < Y.heap.size := by omega
    clear hsz
    refine hK.out _ _ (hSof _ lv) (fun _ => ?_)
    clear hK K
    try simp only [Act.put, qb23a, qb23z, qb23s]
    obtain ⟨X, rfl⟩ : ∃ X, X = Y := ⟨_, rfl⟩
    refine wpAnyH_ready (rs := [4]) (by kernel_rfl) (by simp) ?_
    refine AllReadyH.cons (o := ⟨some 15, _, _, _, _, _⟩) rfl (fun K hK => ?_) AllReadyH.nil
    go_simp
    refine (HS _ _ _ lv (Nat.lt_of_succ_lt hB1) hB1 hc1 hc2).mono ?_
    rintro e Y ⟨rfl, hb⟩
    have lv := lv.trans (hb.mono lv.size)
    have ro := ro.below hb
    refine hK.out _ _ (hSof _ lv) (fun _ => ?_)
    clear hK K
    try simp only [Act.put, qb23a, qb23z, qb23s]
    obtain ⟨X, rfl⟩ : ∃ X, X = Y := ⟨_, rfl⟩
    refine wpAnyH_ready (rs := [6]) (by kernel_rfl) (by simp) ?_
    refine AllReadyH.cons (o := ⟨none, .store _ (.tmp 6) (.tmp 15), _, _, _, _⟩) rfl (fun K hK => ?_) AllReadyH.nil
    have c0 := ro.c00
    have c1 := ro.c01
    have f0 := ro.f0
    go_simp
    have lv := Below.put2 lv hTo (.string q1) (.string q2)
    have ro := ro.put (.string q1) (.string q2)
    refine hK.out _ _ (hSof _ lv) (fun _ => ?_)
    clear hK K
    try simp only [Act.put, qb23a, qb23z, qb23s]
    refine wpAnyH_done (by kernel_rfl) ?_ _
    exact HQ.out _ _ _ ro hTo lv


noncomputable def halfRegOps : Array Oper := ((Tryz.f108.body.bind (findRegion · 3)).getD #[])
set_option maxRecDepth 100000 in
set_option maxHeartbeats 8000000 in
theorem halfReg (k : Int) (one s1 s2 q1 q2 : ByteArray) (bs bf bx : Nat) {u0 u1 u3 u4 u7 u8 u9 u10 u11 u12 u13 u14 u15 u16 u17 u18 u19 u20 u21 u22 u23 u24 u25 u26 u27 u28 u29 u30 u31 u32 u33 u34 u35 : Value} (V : World) (Q : Exit → Act → World → Prop)
    (hs : RC bs V (.int .i64 k) (.string one)) (hf : RC bf V (.string s1) (.string s2))
    (HT : TermsC s1 s2 (.func (.func 147) #[] #[.pointer (some ⟨bs, 0, none⟩), .pointer (some ⟨bx, 0, none⟩)])) (HS : SumC2 k one s1 s2 q1 q2 (.func (.func 147) #[] #[.pointer (some ⟨bs, 0, none⟩), .pointer (some ⟨bx, 0, none⟩)]) V)
    (hP : ∀ (c : List PanicEntry) (a : Act) (d : Option Tmp) (v : Value) (W : World), Q (.panic c) (a.put d v) W → Q (.panic c) a W)
    (hQ : ∀ (To : Nat) (x : Value) (F : World), RC To F (.string q1) (.string q2) → V.heap.size ≤ To → Below V.heap.size V F → Q .normal { tmps := #[u0, u1, .pointer (some ⟨bs, 0, none⟩), u3, u4, .pointer (some ⟨bf, 0, none⟩), .pointer (some ⟨bx, 0, none⟩), .pointer (some ⟨To, 0, none⟩), u8, u9, u10, u11, u12, u13, u14, .agg #[.int .i64 k, .string one], .agg #[.string s1, .string s2], .func (.func 147) #[] #[.pointer (some ⟨bs, 0, none⟩), .pointer (some ⟨bx, 0, none⟩)], x, .agg #[.string q1, .string q2], u20, u21, u22, u23, u24, u25, u26, u27, u28, u29, u30, u31, u32, u33, u34, u35], defers := [] } F) :
    (Code.region 3 halfRegOps true).wp Tryz.prog Q { tmps := #[u0, u1, .pointer (some ⟨bs, 0, none⟩), u3, u4, .pointer (some ⟨bf, 0, none⟩), .pointer (some ⟨bx, 0, none⟩), u7, u8, u9, u10, u11, u12, u13, u14, u15, u16, u17, u18, u19, u20, u21, u22, u23, u24, u25, u26, u27, u28, u29, u30, u31, u32, u33, u34, u35], defers := [] } V := by
  have hmf : ∀ (fn : Fn) (first cap : Array Value) (w : World), (Instr.makeFunc fn first cap).run Tryz.prog w = .ok (.func fn first cap) w := fun _ _ _ _ => rfl
  have hSof : ∀ W, Below V.heap.size V W → (W.cell? ⟨bs, 0, none⟩ = some (.int .i64 k) ∧ W.cell? ⟨bs, 1, none⟩ = some (.string one) ∧ W.cell? ⟨bf, 0, none⟩ = some (.string s1) ∧ W.cell? ⟨bf, 1, none⟩ = some (.string s2)) := fun W hb => by
    have ks := hs.belowB hb (ltOf hs.c00)
    have kf := hf.belowB hb (ltOf hf.c00)
    exact ⟨ks.c00, ks.c01, kf.c00, kf.c01⟩
  have HQ := Lib.hid hQ
  clear hQ
  refine wp_region_held_drew (S := fun W => W.cell? ⟨bs, 0, none⟩ = some (.int .i64 k) ∧ W.cell? ⟨bs, 1, none⟩ = some (.string one) ∧ W.cell? ⟨bf, 0, none⟩ = some (.string s1) ∧ W.cell? ⟨bf, 1, none⟩ = some (.string s2)) (by kernel_rfl) (hSof _ (Below.refl _ V).drew) (fun hHeld => ?_)
  have lv : Below V.heap.size V V.drew := (Below.refl _ V).drew
  generalize V.drew = X at *
  refine wpAnyH_take (i := 0) (oi := ⟨some 15, _, _, _, _, _⟩) (v := .agg #[.int .i64 k, .string one]) rfl (by kernel_rfl) (by kernel_rfl) (by kernel_rfl) (fun _ _ _ h => hP _ _ _ _ _ h) (Or.inl ⟨rfl, fun w' hSw => by (try dsimp only at hSw); go_simp; (try with_reducible rfl)⟩) (hSof _ lv) ?_
  try simp only [Act.put, qb23a, qb23z, qb23s]
  refine wpAnyH_take (i := 1) (oi := ⟨some 16, _, _, _, _, _⟩) (v := .agg #[.string s1, .string s2]) rfl (by kernel_rfl) (by kernel_rfl) (by kernel_rfl) (fun _ _ _ h => hP _ _ _ _ _ h) (Or.inl ⟨rfl, fun w' hSw => by (try dsimp only at hSw); go_simp; (try with_reducible rfl)⟩) (hSof _ lv) ?_
  try simp only [Act.put, qb23a, qb23z, qb23s]
  refine wpAnyH_take (i := 2) (oi := ⟨some 17, _, _, _, _, _⟩) (v := .func (.func 147) #[] #[.pointer (some ⟨bs, 0, none⟩), .pointer (some ⟨bx, 0, none⟩)]) rfl (by kernel_rfl) (by kernel_rfl) (by kernel_rfl) (fun _ _ _ h => hP _ _ _ _ _ h) (Or.inl ⟨rfl, fun w' hSw => by (try dsimp only at hSw); go_simp; (try with_reducible rfl)⟩) (hSof _ lv) ?_
  try simp only [Act.put, qb23a, qb23z, qb23s]
  refine wpAnyH_ready (rs := [3, 5]) (by kernel_rfl) (by simp) ?_
  refine AllReadyH.cons (o := ⟨some 18, _, _, _, _, _⟩) rfl (fun K hK => ?_) (AllReadyH.cons (o := ⟨some 7, _, _, _, _, _⟩) rfl (fun K hK => ?_) AllReadyH.nil)
  · go_simp
    refine (HT _).mono ?_
    rintro e Y ⟨rfl, hb, hc1, hc2, hsz⟩
    have lv := lv.trans (hb.mono lv.size)
    have hB1 : X.heap.size + 1 < Y.heap.size := by omega
    clear hsz
    refine hK.out _ _ (hSof _ lv) (fun _ => ?_)
    clear hK K
    try simp only [Act.put, qb23a, qb23z, qb23s]
    obtain ⟨X, rfl⟩ : ∃ X, X = Y := ⟨_, rfl⟩
    refine wpAnyH_ready (rs := [4, 5]) (by kernel_rfl) (by simp) ?_
    refine AllReadyH.cons (o := ⟨some 19, _, _, _, _, _⟩) rfl (fun K hK => ?_) (AllReadyH.cons (o := ⟨some 7, _, _, _, _, _⟩) rfl (fun K hK => ?_) AllReadyH.nil)
    · go_simp
      refine (HS _ _ _ lv (Nat.lt_of_succ_lt hB1) hB1 hc1 hc2).mono ?_
      rintro e Y ⟨rfl, hb⟩
      have lv := lv.trans (hb.mono lv.size)
      refine hK.out _ _ (hSof _ lv) (fun _ => ?_)
      clear hK K
      try simp only [Act.put, qb23a, qb23z, qb23s]
      obtain ⟨X, rfl⟩ : ∃ X, X = Y := ⟨_, rfl⟩
      refine wpAnyH_ready (rs := [5]) (by kernel_rfl) (by simp) ?_
      refine AllReadyH.cons (o := ⟨some 7, _, _, _, _, _⟩) rfl (fun K hK => ?_) AllReadyH.nil
      go_simp
      have bn := belowNew X (.cells #[.string ⟨#[]⟩, .string ⟨#[]⟩] 61)
      have ro := RC.new X 61 (.string ⟨#[]⟩) (.string ⟨#[]⟩)
      have hTo := lv.size
      have lv := lv.trans (bn.mono lv.size)
      refine hK.out _ _ (hSof _ lv) (fun _ => ?_)
      clear hK K bn
      try simp only [Act.put, qb23a, qb23z, qb23s]
      obtain ⟨To, hToe⟩ : ∃ To, To = X.heap.size := ⟨_, rfl⟩
      rw [← hToe] at ro hTo ⊢
      clear hToe
      generalize X.alloc (.cells #[.string ⟨#[]⟩, .string ⟨#[]⟩] 61) = X at *
      refine wpAnyH_ready (rs := [6]) (by kernel_rfl) (by simp) ?_
      refine AllReadyH.cons (o := ⟨none, .store _ (.tmp 7) (.tmp 19), _, _, _, _⟩) rfl (fun K hK => ?_) AllReadyH.nil
      have c0 := ro.c00
      have c1 := ro.c01
      have f0 := ro.f0
      go_simp
      have lv := Below.put2 lv hTo (.string q1) (.string q2)
      have ro := ro.put (.string q1) (.string q2)
      refine hK.out _ _ (hSof _ lv) (fun _ => ?_)
      clear hK K
      try simp only [Act.put, qb23a, qb23z, qb23s]
      refine wpAnyH_done (by kernel_rfl) ?_ _
      exact HQ.out _ _ _ ro hTo lv
    · go_simp
      have bn := belowNew X (.cells #[.string ⟨#[]⟩, .string ⟨#[]⟩] 61)
      have ro := RC.new X 61 (.string ⟨#[]⟩) (.string ⟨#[]⟩)
      have hTo := lv.size
      have lv := lv.trans (bn.mono lv.size)
      have hc1 := (bn.block _ (Nat.lt_of_succ_lt hB1)).trans hc1
      have hc2 := (bn.block _ hB1).trans hc2
      have hB1 := Nat.lt_of_lt_of_le hB1 bn.size
      refine hK.out _ _ (hSof _ lv) (fun _ => ?_)
      clear hK K bn
      try simp only [Act.put, qb23a, qb23z, qb23s]
      obtain ⟨To, hToe⟩ : ∃ To, To = X.heap.size := ⟨_, rfl⟩
      rw [← hToe] at ro hTo ⊢
      clear hToe
      generalize X.alloc (.cells #[.string ⟨#[]⟩, .string ⟨#[]⟩] 61) = X at *
      refine wpAnyH_ready (rs := [4]) (by kernel_rfl) (by simp) ?_
      refine AllReadyH.cons (o := ⟨some 19, _, _, _, _, _⟩) rfl (fun K hK => ?_) AllReadyH.nil
      go_simp
      refine (HS _ _ _ lv (Nat.lt_of_succ_lt hB1) hB1 hc1 hc2).mono ?_
      rintro e Y ⟨rfl, hb⟩
      have lv := lv.trans (hb.mono lv.size)
      have ro := ro.below hb
      refine hK.out _ _ (hSof _ lv) (fun _ => ?_)
      clear hK K
      try simp only [Act.put, qb23a, qb23z, qb23s]
      obtain ⟨X, rfl⟩ : ∃ X, X = Y := ⟨_, rfl⟩
      refine wpAnyH_ready (rs := [6]) (by kernel_rfl) (by simp) ?_
      refine AllReadyH.cons (o := ⟨none, .store _ (.tmp 7) (.tmp 19), _, _, _, _⟩) rfl (fun K hK => ?_) AllReadyH.nil
      have c0 := ro.c00
      have c1 := ro.c01
      have f0 := ro.f0
      go_simp
      have lv := Below.put2 lv hTo (.string q1) (.string q2)
      have ro := ro.put (.string q1) (.string q2)
      refine hK.out _ _ (hSof _ lv) (fun _ => ?_)
      clear hK K
      try simp only [Act.put, qb23a, qb23z, qb23s]
      refine wpAnyH_done (by kernel_rfl) ?_ _
      exact HQ.out _ _ _ ro hTo lv
  · go_simp
    have bn := belowNew X (.cells #[.string ⟨#[]⟩, .string ⟨#[]⟩] 61)
    have ro := RC.new X 61 (.string ⟨#[]⟩) (.string ⟨#[]⟩)
    have hTo := lv.size
    have lv := lv.trans (bn.mono lv.size)
    refine hK.out _ _ (hSof _ lv) (fun _ => ?_)
    clear hK K bn
    try simp only [Act.put, qb23a, qb23z, qb23s]
    obtain ⟨To, hToe⟩ : ∃ To, To = X.heap.size := ⟨_, rfl⟩
    rw [← hToe] at ro hTo ⊢
    clear hToe
    generalize X.alloc (.cells #[.string ⟨#[]⟩, .string ⟨#[]⟩] 61) = X at *
    refine wpAnyH_ready (rs := [3]) (by kernel_rfl) (by simp) ?_
    refine AllReadyH.cons (o := ⟨some 18, _, _, _, _, _⟩) rfl (fun K hK => ?_) AllReadyH.nil
    go_simp
    refine (HT _).mono ?_
    rintro e Y ⟨rfl, hb, hc1, hc2, hsz⟩
    have lv := lv.trans (hb.mono lv.size)
    have ro := ro.below hb
    have hB1 : X.heap.size + 1 < Y.heap.size := by omega
    clear hsz
    refine hK.out _ _ (hSof _ lv) (fun _ => ?_)
    clear hK K
    try simp only [Act.put, qb23a, qb23z, qb23s]
    obtain ⟨X, rfl⟩ : ∃ X, X = Y := ⟨_, rfl⟩
    refine wpAnyH_ready (rs := [4]) (by kernel_rfl) (by simp) ?_
    refine AllReadyH.cons (o := ⟨some 19, _, _, _, _, _⟩) rfl (fun K hK => ?_) AllReadyH.nil
    go_simp
    refine (HS _ _ _ lv (Nat.lt_of_succ_lt hB1) hB1 hc1 hc2).mono ?_
    rintro e Y ⟨rfl, hb⟩
    have lv := lv.trans (hb.mono lv.size)
    have ro := ro.below hb
    refine hK.out _ _ (hSof _ lv) (fun _ => ?_)
    clear hK K
    try simp only [Act.put, qb23a, qb23z, qb23s]
    obtain ⟨X, rfl⟩ : ∃ X, X = Y := ⟨_, rfl⟩
    refine wpAnyH_ready (rs := [6]) (by kernel_rfl) (by simp) ?_
    refine AllReadyH.cons (o := ⟨none, .store _ (.tmp 7) (.tmp 19), _, _, _, _⟩) rfl (fun K hK => ?_) AllReadyH.nil
    have c0 := ro.c00
    have c1 := ro.c01
    have f0 := ro.f0
    go_simp
    have lv := Below.put2 lv hTo (.string q1) (.string q2)
    have ro := ro.put (.string q1) (.string q2)
    refine hK.out _ _ (hSof _ lv) (fun _ => ?_)
    clear hK K
    try simp only [Act.put, qb23a, qb23z, qb23s]
    refine wpAnyH_done (by kernel_rfl) ?_ _
    exact HQ.out _ _ _ ro hTo lv


noncomputable def expRegOps : Array Oper := ((Tryz.f42.body.bind (findRegion · 5)).getD #[])
set_option maxRecDepth 100000 in
set_option maxHeartbeats 8000000 in
theorem expReg (k : Int) (one s1 s2 q1 q2 : ByteArray) (bs bx : Nat) {u0 u1 u4 u5 u6 u7 u8 u9 u10 u11 u12 u13 u14 u15 u16 u17 u18 u19 u20 u21 u22 u23 u24 u25 u26 u27 u28 u29 u30 u31 u32 u33 : Value} (V : World) (Q : Exit → Act → World → Prop)
    (hs : RC bs V (.int .i64 k) (.string one))
    (HT : TermsC s1 s2 (.func (.func 87) #[] #[.pointer (some ⟨bs, 0, none⟩), .pointer (some ⟨bx, 0, none⟩)])) (HS : SumC2 k one s1 s2 q1 q2 (.func (.func 87) #[] #[.pointer (some ⟨bs, 0, none⟩), .pointer (some ⟨bx, 0, none⟩)]) V) (HW : WholeC k 1 one s1 s2 V)
    (hP : ∀ (c : List PanicEntry) (a : Act) (d : Option Tmp) (v : Value) (W : World), Q (.panic c) (a.put d v) W → Q (.panic c) a W)
    (hQ : ∀ (To : Nat) (x : Value) (F : World), RC To F (.string q1) (.string q2) → V.heap.size ≤ To → Below V.heap.size V F → Q .normal { tmps := #[u0, u1, .pointer (some ⟨bs, 0, none⟩), .pointer (some ⟨bx, 0, none⟩), u4, u5, .pointer (some ⟨To, 0, none⟩), u7, u8, u9, u10, u11, u12, u13, u14, u15, u16, u17, u18, .agg #[.int .i64 k, .string one], .agg #[.int .i64 k, .string one], .agg #[.string s1, .string s2], .func (.func 87) #[] #[.pointer (some ⟨bs, 0, none⟩), .pointer (some ⟨bx, 0, none⟩)], x, .agg #[.string q1, .string q2], u25, u26, u27, u28, u29, u30, u31, u32, u33], defers := [] } F) :
    (Code.region 5 expRegOps true).wp Tryz.prog Q { tmps := #[u0, u1, .pointer (some ⟨bs, 0, none⟩), .pointer (some ⟨bx, 0, none⟩), u4, u5, u6, u7, u8, u9, u10, u11, u12, u13, u14, u15, u16, u17, u18, u19, u20, u21, u22, u23, u24, u25, u26, u27, u28, u29, u30, u31, u32, u33], defers := [] } V := by
  have hmf : ∀ (fn : Fn) (first cap : Array Value) (w : World), (Instr.makeFunc fn first cap).run Tryz.prog w = .ok (.func fn first cap) w := fun _ _ _ _ => rfl
  have hSof : ∀ W, Below V.heap.size V W → (W.cell? ⟨bs, 0, none⟩ = some (.int .i64 k) ∧ W.cell? ⟨bs, 1, none⟩ = some (.string one)) := fun W hb => by
    have ks := hs.belowB hb (ltOf hs.c00)
    exact ⟨ks.c00, ks.c01⟩
  have HQ := Lib.hid hQ
  clear hQ
  refine wp_region_held_drew (S := fun W => W.cell? ⟨bs, 0, none⟩ = some (.int .i64 k) ∧ W.cell? ⟨bs, 1, none⟩ = some (.string one)) (by kernel_rfl) (hSof _ (Below.refl _ V).drew) (fun hHeld => ?_)
  have lv : Below V.heap.size V V.drew := (Below.refl _ V).drew
  generalize V.drew = X at *
  refine wpAnyH_take (i := 0) (oi := ⟨some 19, _, _, _, _, _⟩) (v := .agg #[.int .i64 k, .string one]) rfl (by kernel_rfl) (by kernel_rfl) (by kernel_rfl) (fun _ _ _ h => hP _ _ _ _ _ h) (Or.inl ⟨rfl, fun w' hSw => by (try dsimp only at hSw); go_simp; (try with_reducible rfl)⟩) (hSof _ lv) ?_
  try simp only [Act.put, qb23a, qb23z, qb23s]
  refine wpAnyH_take (i := 1) (oi := ⟨some 20, _, _, _, _, _⟩) (v := .agg #[.int .i64 k, .string one]) rfl (by kernel_rfl) (by kernel_rfl) (by kernel_rfl) (fun _ _ _ h => hP _ _ _ _ _ h) (Or.inl ⟨rfl, fun w' hSw => by (try dsimp only at hSw); go_simp; (try with_reducible rfl)⟩) (hSof _ lv) ?_
  try simp only [Act.put, qb23a, qb23z, qb23s]
  refine wpAnyH_take (i := 3) (oi := ⟨some 22, _, _, _, _, _⟩) (v := .func (.func 87) #[] #[.pointer (some ⟨bs, 0, none⟩), .pointer (some ⟨bx, 0, none⟩)]) rfl (by kernel_rfl) (by kernel_rfl) (by kernel_rfl) (fun _ _ _ h => hP _ _ _ _ _ h) (Or.inl ⟨rfl, fun w' hSw => by (try dsimp only at hSw); go_simp; (try with_reducible rfl)⟩) (hSof _ lv) ?_
  try simp only [Act.put, qb23a, qb23z, qb23s]
  refine wpAnyH_ready (rs := [2, 6]) (by kernel_rfl) (by simp) ?_
  refine AllReadyH.cons (o := ⟨some 21, _, _, _, _, _⟩) rfl (fun K hK => ?_) (AllReadyH.cons (o := ⟨some 6, _, _, _, _, _⟩) rfl (fun K hK => ?_) AllReadyH.nil)
  · go_simp
    refine (HW _ lv).mono ?_
    rintro e Y ⟨rfl, hb⟩
    have lv := lv.trans (hb.mono lv.size)
    refine hK.out _ _ (hSof _ lv) (fun _ => ?_)
    clear hK K
    try simp only [Act.put, qb23a, qb23z, qb23s]
    obtain ⟨X, rfl⟩ : ∃ X, X = Y := ⟨_, rfl⟩
    refine wpAnyH_ready (rs := [4, 6]) (by kernel_rfl) (by simp) ?_
    refine AllReadyH.cons (o := ⟨some 23, _, _, _, _, _⟩) rfl (fun K hK => ?_) (AllReadyH.cons (o := ⟨some 6, _, _, _, _, _⟩) rfl (fun K hK => ?_) AllReadyH.nil)
    · go_simp
      refine (HT _).mono ?_
      rintro e Y ⟨rfl, hb, hc1, hc2, hsz⟩
      have lv := lv.trans (hb.mono lv.size)
      have hB1 : X.heap.size + 1 < Y.heap.size := by omega
      clear hsz
      refine hK.out _ _ (hSof _ lv) (fun _ => ?_)
      clear hK K
      try simp only [Act.put, qb23a, qb23z, qb23s]
      obtain ⟨X, rfl⟩ : ∃ X, X = Y := ⟨_, rfl⟩
      refine wpAnyH_ready (rs := [5, 6]) (by kernel_rfl) (by simp) ?_
      refine AllReadyH.cons (o := ⟨some 24, _, _, _, _, _⟩) rfl (fun K hK => ?_) (AllReadyH.cons (o := ⟨some 6, _, _, _, _, _⟩) rfl (fun K hK => ?_) AllReadyH.nil)
      · go_simp
        refine (HS _ _ _ lv (Nat.lt_of_succ_lt hB1) hB1 hc1 hc2).mono ?_
        rintro e Y ⟨rfl, hb⟩
        have lv := lv.trans (hb.mono lv.size)
        refine hK.out _ _ (hSof _ lv) (fun _ => ?_)
        clear hK K
        try simp only [Act.put, qb23a, qb23z, qb23s]
        obtain ⟨X, rfl⟩ : ∃ X, X = Y := ⟨_, rfl⟩
        refine wpAnyH_ready (rs := [6]) (by kernel_rfl) (by simp) ?_
        refine AllReadyH.cons (o := ⟨some 6, _, _, _, _, _⟩) rfl (fun K hK => ?_) AllReadyH.nil
        go_simp
        have bn := belowNew X (.cells #[.string ⟨#[]⟩, .string ⟨#[]⟩] 61)
        have ro := RC.new X 61 (.string ⟨#[]⟩) (.string ⟨#[]⟩)
        have hTo := lv.size
        have lv := lv.trans (bn.mono lv.size)
        refine hK.out _ _ (hSof _ lv) (fun _ => ?_)
        clear hK K bn
        try simp only [Act.put, qb23a, qb23z, qb23s]
        obtain ⟨To, hToe⟩ : ∃ To, To = X.heap.size := ⟨_, rfl⟩
        rw [← hToe] at ro hTo ⊢
        clear hToe
        generalize X.alloc (.cells #[.string ⟨#[]⟩, .string ⟨#[]⟩] 61) = X at *
        refine wpAnyH_ready (rs := [7]) (by kernel_rfl) (by simp) ?_
        refine AllReadyH.cons (o := ⟨none, .store _ (.tmp 6) (.tmp 24), _, _, _, _⟩) rfl (fun K hK => ?_) AllReadyH.nil
        have c0 := ro.c00
        have c1 := ro.c01
        have f0 := ro.f0
        go_simp
        have lv := Below.put2 lv hTo (.string q1) (.string q2)
        have ro := ro.put (.string q1) (.string q2)
        refine hK.out _ _ (hSof _ lv) (fun _ => ?_)
        clear hK K
        try simp only [Act.put, qb23a, qb23z, qb23s]
        refine wpAnyH_done (by kernel_rfl) ?_ _
        exact HQ.out _ _ _ ro hTo lv
      · go_simp
        have bn := belowNew X (.cells #[.string ⟨#[]⟩, .string ⟨#[]⟩] 61)
        have ro := RC.new X 61 (.string ⟨#[]⟩) (.string ⟨#[]⟩)
        have hTo := lv.size
        have lv := lv.trans (bn.mono lv.size)
        have hc1 := (bn.block _ (Nat.lt_of_succ_lt hB1)).trans hc1
        have hc2 := (bn.block _ hB1).trans hc2
        have hB1 := Nat.lt_of_lt_of_le hB1 bn.size
        refine hK.out _ _ (hSof _ lv) (fun _ => ?_)
        clear hK K bn
        try simp only [Act.put, qb23a, qb23z, qb23s]
        obtain ⟨To, hToe⟩ : ∃ To, To = X.heap.size := ⟨_, rfl⟩
        rw [← hToe] at ro hTo ⊢
        clear hToe
        generalize X.alloc (.cells #[.string ⟨#[]⟩, .string ⟨#[]⟩] 61) = X at *
        refine wpAnyH_ready (rs := [5]) (by kernel_rfl) (by simp) ?_
        refine AllReadyH.cons (o := ⟨some 24, _, _, _, _, _⟩) rfl (fun K hK => ?_) AllReadyH.nil
        go_simp
        refine (HS _ _ _ lv (Nat.lt_of_succ_lt hB1) hB1 hc1 hc2).mono ?_
        rintro e Y ⟨rfl, hb⟩
        have lv := lv.trans (hb.mono lv.size)
        have ro := ro.below hb
        refine hK.out _ _ (hSof _ lv) (fun _ => ?_)
        clear hK K
        try simp only [Act.put, qb23a, qb23z, qb23s]
        obtain ⟨X, rfl⟩ : ∃ X, X = Y := ⟨_, rfl⟩
        refine wpAnyH_ready (rs := [7]) (by kernel_rfl) (by simp) ?_
        refine AllReadyH.cons (o := ⟨none, .store _ (.tmp 6) (.tmp 24), _, _, _, _⟩) rfl (fun K hK => ?_) AllReadyH.nil
        have c0 := ro.c00
        have c1 := ro.c01
        have f0 := ro.f0
        go_simp
        have lv := Below.put2 lv hTo (.string q1) (.string q2)
        have ro := ro.put (.string q1) (.string q2)
        refine hK.out _ _ (hSof _ lv) (fun _ => ?_)
        clear hK K
        try simp only [Act.put, qb23a, qb23z, qb23s]
        refine wpAnyH_done (by kernel_rfl) ?_ _
        exact HQ.out _ _ _ ro hTo lv
    · go_simp
      have bn := belowNew X (.cells #[.string ⟨#[]⟩, .string ⟨#[]⟩] 61)
      have ro := RC.new X 61 (.string ⟨#[]⟩) (.string ⟨#[]⟩)
      have hTo := lv.size
      have lv := lv.trans (bn.mono lv.size)
      refine hK.out _ _ (hSof _ lv) (fun _ => ?_)
      clear hK K bn
      try simp only [Act.put, qb23a, qb23z, qb23s]
      obtain ⟨To, hToe⟩ : ∃ To, To = X.heap.size := ⟨_, rfl⟩
      rw [← hToe] at ro hTo ⊢
      clear hToe
      generalize X.alloc (.cells #[.string ⟨#[]⟩, .string ⟨#[]⟩] 61) = X at *
      refine wpAnyH_ready (rs := [4]) (by kernel_rfl) (by simp) ?_
      refine AllReadyH.cons (o := ⟨some 23, _, _, _, _, _⟩) rfl (fun K hK => ?_) AllReadyH.nil
      go_simp
      refine (HT _).mono ?_
      rintro e Y ⟨rfl, hb, hc1, hc2, hsz⟩
      have lv := lv.trans (hb.mono lv.size)
      have ro := ro.below hb
      have hB1 : X.heap.size + 1 < Y.heap.size := by omega
      clear hsz
      refine hK.out _ _ (hSof _ lv) (fun _ => ?_)
      clear hK K
      try simp only [Act.put, qb23a, qb23z, qb23s]
      obtain ⟨X, rfl⟩ : ∃ X, X = Y := ⟨_, rfl⟩
      refine wpAnyH_ready (rs := [5]) (by kernel_rfl) (by simp) ?_
      refine AllReadyH.cons (o := ⟨some 24, _, _, _, _, _⟩) rfl (fun K hK => ?_) AllReadyH.nil
      go_simp
      refine (HS _ _ _ lv (Nat.lt_of_succ_lt hB1) hB1 hc1 hc2).mono ?_
      rintro e Y ⟨rfl, hb⟩
      have lv := lv.trans (hb.mono lv.size)
      have ro := ro.below hb
      refine hK.out _ _ (hSof _ lv) (fun _ => ?_)
      clear hK K
      try simp only [Act.put, qb23a, qb23z, qb23s]
      obtain ⟨X, rfl⟩ : ∃ X, X = Y := ⟨_, rfl⟩
      refine wpAnyH_ready (rs := [7]) (by kernel_rfl) (by simp) ?_
      refine AllReadyH.cons (o := ⟨none, .store _ (.tmp 6) (.tmp 24), _, _, _, _⟩) rfl (fun K hK => ?_) AllReadyH.nil
      have c0 := ro.c00
      have c1 := ro.c01
      have f0 := ro.f0
      go_simp
      have lv := Below.put2 lv hTo (.string q1) (.string q2)
      have ro := ro.put (.string q1) (.string q2)
      refine hK.out _ _ (hSof _ lv) (fun _ => ?_)
      clear hK K
      try simp only [Act.put, qb23a, qb23z, qb23s]
      refine wpAnyH_done (by kernel_rfl) ?_ _
      exact HQ.out _ _ _ ro hTo lv
  · go_simp
    have bn := belowNew X (.cells #[.string ⟨#[]⟩, .string ⟨#[]⟩] 61)
    have ro := RC.new X 61 (.string ⟨#[]⟩) (.string ⟨#[]⟩)
    have hTo := lv.size
    have lv := lv.trans (bn.mono lv.size)
    refine hK.out _ _ (hSof _ lv) (fun _ => ?_)
    clear hK K bn
    try simp only [Act.put, qb23a, qb23z, qb23s]
    obtain ⟨To, hToe⟩ : ∃ To, To = X.heap.size := ⟨_, rfl⟩
    rw [← hToe] at ro hTo ⊢
    clear hToe
    generalize X.alloc (.cells #[.string ⟨#[]⟩, .string ⟨#[]⟩] 61) = X at *
    refine wpAnyH_ready (rs := [2]) (by kernel_rfl) (by simp) ?_
    refine AllReadyH.cons (o := ⟨some 21, _, _, _, _, _⟩) rfl (fun K hK => ?_) AllReadyH.nil
    go_simp
    refine (HW _ lv).mono ?_
    rintro e Y ⟨rfl, hb⟩
    have lv := lv.trans (hb.mono lv.size)
    have ro := ro.below hb
    refine hK.out _ _ (hSof _ lv) (fun _ => ?_)
    clear hK K
    try simp only [Act.put, qb23a, qb23z, qb23s]
    obtain ⟨X, rfl⟩ : ∃ X, X = Y := ⟨_, rfl⟩
    refine wpAnyH_ready (rs := [4]) (by kernel_rfl) (by simp) ?_
    refine AllReadyH.cons (o := ⟨some 23, _, _, _, _, _⟩) rfl (fun K hK => ?_) AllReadyH.nil
    go_simp
    refine (HT _).mono ?_
    rintro e Y ⟨rfl, hb, hc1, hc2, hsz⟩
    have lv := lv.trans (hb.mono lv.size)
    have ro := ro.below hb
    have hB1 : X.heap.size + 1 < Y.heap.size := by omega
    clear hsz
    refine hK.out _ _ (hSof _ lv) (fun _ => ?_)
    clear hK K
    try simp only [Act.put, qb23a, qb23z, qb23s]
    obtain ⟨X, rfl⟩ : ∃ X, X = Y := ⟨_, rfl⟩
    refine wpAnyH_ready (rs := [5]) (by kernel_rfl) (by simp) ?_
    refine AllReadyH.cons (o := ⟨some 24, _, _, _, _, _⟩) rfl (fun K hK => ?_) AllReadyH.nil
    go_simp
    refine (HS _ _ _ lv (Nat.lt_of_succ_lt hB1) hB1 hc1 hc2).mono ?_
    rintro e Y ⟨rfl, hb⟩
    have lv := lv.trans (hb.mono lv.size)
    have ro := ro.below hb
    refine hK.out _ _ (hSof _ lv) (fun _ => ?_)
    clear hK K
    try simp only [Act.put, qb23a, qb23z, qb23s]
    obtain ⟨X, rfl⟩ : ∃ X, X = Y := ⟨_, rfl⟩
    refine wpAnyH_ready (rs := [7]) (by kernel_rfl) (by simp) ?_
    refine AllReadyH.cons (o := ⟨none, .store _ (.tmp 6) (.tmp 24), _, _, _, _⟩) rfl (fun K hK => ?_) AllReadyH.nil
    have c0 := ro.c00
    have c1 := ro.c01
    have f0 := ro.f0
    go_simp
    have lv := Below.put2 lv hTo (.string q1) (.string q2)
    have ro := ro.put (.string q1) (.string q2)
    refine hK.out _ _ (hSof _ lv) (fun _ => ?_)
    clear hK K
    try simp only [Act.put, qb23a, qb23z, qb23s]
    refine wpAnyH_done (by kernel_rfl) ?_ _
    exact HQ.out _ _ _ ro hTo lv


noncomputable def tailReg2Ops : Array Oper := ((Tryz.f72.body.bind (findRegion · 2)).getD #[])
set_option maxRecDepth 100000 in
set_option maxHeartbeats 8000000 in
theorem tailReg2 (k : Int) (one s1 s2 q1 q2 : ByteArray) (bs bx bv : Nat) {u0 u1 u2 u4 u6 u8 u9 u10 u11 u12 u13 u14 u15 u16 u17 u18 u19 u20 u21 u22 u23 u24 u25 u26 u27 u28 u29 u30 u31 u32 u33 u34 u35 u36 u37 u38 u39 u40 u41 u42 u43 u44 u45 u46 u47 u48 u49 u50 u51 u52 u53 u54 u55 u56 u57 u58 u59 u60 u61 u62 u63 : Value} (V : World) (Q : Exit → Act → World → Prop)
    (hs : RC bs V (.int .i64 k) (.string one))
    (HT : TermsC s1 s2 (.func (.func 116) #[] #[.pointer (some ⟨bs, 0, none⟩), .pointer (some ⟨bx, 0, none⟩), .pointer (some ⟨bv, 0, none⟩)])) (HS : SumC2 k one s1 s2 q1 q2 (.func (.func 116) #[] #[.pointer (some ⟨bs, 0, none⟩), .pointer (some ⟨bx, 0, none⟩), .pointer (some ⟨bv, 0, none⟩)]) V) (HW : WholeC k 1 one s1 s2 V)
    (hP : ∀ (c : List PanicEntry) (a : Act) (d : Option Tmp) (v : Value) (W : World), Q (.panic c) (a.put d v) W → Q (.panic c) a W)
    (hQ : ∀ (To : Nat) (x : Value) (F : World), RC To F (.string q1) (.string q2) → V.heap.size ≤ To → Below V.heap.size V F → Q .normal { tmps := #[u0, u1, u2, .pointer (some ⟨bs, 0, none⟩), u4, .pointer (some ⟨bv, 0, none⟩), u6, .pointer (some ⟨bx, 0, none⟩), .pointer (some ⟨To, 0, none⟩), u9, u10, u11, u12, u13, u14, u15, .agg #[.int .i64 k, .string one], .agg #[.int .i64 k, .string one], .agg #[.string s1, .string s2], .func (.func 116) #[] #[.pointer (some ⟨bs, 0, none⟩), .pointer (some ⟨bx, 0, none⟩), .pointer (some ⟨bv, 0, none⟩)], x, .agg #[.string q1, .string q2], u22, u23, u24, u25, u26, u27, u28, u29, u30, u31, u32, u33, u34, u35, u36, u37, u38, u39, u40, u41, u42, u43, u44, u45, u46, u47, u48, u49, u50, u51, u52, u53, u54, u55, u56, u57, u58, u59, u60, u61, u62, u63], defers := [] } F) :
    (Code.region 2 tailReg2Ops true).wp Tryz.prog Q { tmps := #[u0, u1, u2, .pointer (some ⟨bs, 0, none⟩), u4, .pointer (some ⟨bv, 0, none⟩), u6, .pointer (some ⟨bx, 0, none⟩), u8, u9, u10, u11, u12, u13, u14, u15, u16, u17, u18, u19, u20, u21, u22, u23, u24, u25, u26, u27, u28, u29, u30, u31, u32, u33, u34, u35, u36, u37, u38, u39, u40, u41, u42, u43, u44, u45, u46, u47, u48, u49, u50, u51, u52, u53, u54, u55, u56, u57, u58, u59, u60, u61, u62, u63], defers := [] } V := by
  have hmf : ∀ (fn : Fn) (first cap : Array Value) (w : World), (Instr.makeFunc fn first cap).run Tryz.prog w = .ok (.func fn first cap) w := fun _ _ _ _ => rfl
  have hSof : ∀ W, Below V.heap.size V W → (W.cell? ⟨bs, 0, none⟩ = some (.int .i64 k) ∧ W.cell? ⟨bs, 1, none⟩ = some (.string one)) := fun W hb => by
    have ks := hs.belowB hb (ltOf hs.c00)
    exact ⟨ks.c00, ks.c01⟩
  have HQ := Lib.hid hQ
  clear hQ
  refine wp_region_held_drew (S := fun W => W.cell? ⟨bs, 0, none⟩ = some (.int .i64 k) ∧ W.cell? ⟨bs, 1, none⟩ = some (.string one)) (by kernel_rfl) (hSof _ (Below.refl _ V).drew) (fun hHeld => ?_)
  have lv : Below V.heap.size V V.drew := (Below.refl _ V).drew
  generalize V.drew = X at *
  refine wpAnyH_take (i := 0) (oi := ⟨some 16, _, _, _, _, _⟩) (v := .agg #[.int .i64 k, .string one]) rfl (by kernel_rfl) (by kernel_rfl) (by kernel_rfl) (fun _ _ _ h => hP _ _ _ _ _ h) (Or.inl ⟨rfl, fun w' hSw => by (try dsimp only at hSw); go_simp; (try with_reducible rfl)⟩) (hSof _ lv) ?_
  try simp only [Act.put, qb23a, qb23z, qb23s]
  refine wpAnyH_take (i := 1) (oi := ⟨some 17, _, _, _, _, _⟩) (v := .agg #[.int .i64 k, .string one]) rfl (by kernel_rfl) (by kernel_rfl) (by kernel_rfl) (fun _ _ _ h => hP _ _ _ _ _ h) (Or.inl ⟨rfl, fun w' hSw => by (try dsimp only at hSw); go_simp; (try with_reducible rfl)⟩) (hSof _ lv) ?_
  try simp only [Act.put, qb23a, qb23z, qb23s]
  refine wpAnyH_take (i := 3) (oi := ⟨some 19, _, _, _, _, _⟩) (v := .func (.func 116) #[] #[.pointer (some ⟨bs, 0, none⟩), .pointer (some ⟨bx, 0, none⟩), .pointer (some ⟨bv, 0, none⟩)]) rfl (by kernel_rfl) (by kernel_rfl) (by kernel_rfl) (fun _ _ _ h => hP _ _ _ _ _ h) (Or.inl ⟨rfl, fun w' hSw => by (try dsimp only at hSw); go_simp; (try with_reducible rfl)⟩) (hSof _ lv) ?_
  try simp only [Act.put, qb23a, qb23z, qb23s]
  refine wpAnyH_ready (rs := [2, 6]) (by kernel_rfl) (by simp) ?_
  refine AllReadyH.cons (o := ⟨some 18, _, _, _, _, _⟩) rfl (fun K hK => ?_) (AllReadyH.cons (o := ⟨some 8, _, _, _, _, _⟩) rfl (fun K hK => ?_) AllReadyH.nil)
  · go_simp
    refine (HW _ lv).mono ?_
    rintro e Y ⟨rfl, hb⟩
    have lv := lv.trans (hb.mono lv.size)
    refine hK.out _ _ (hSof _ lv) (fun _ => ?_)
    clear hK K
    try simp only [Act.put, qb23a, qb23z, qb23s]
    obtain ⟨X, rfl⟩ : ∃ X, X = Y := ⟨_, rfl⟩
    refine wpAnyH_ready (rs := [4, 6]) (by kernel_rfl) (by simp) ?_
    refine AllReadyH.cons (o := ⟨some 20, _, _, _, _, _⟩) rfl (fun K hK => ?_) (AllReadyH.cons (o := ⟨some 8, _, _, _, _, _⟩) rfl (fun K hK => ?_) AllReadyH.nil)
    · go_simp
      refine (HT _).mono ?_
      rintro e Y ⟨rfl, hb, hc1, hc2, hsz⟩
      have lv := lv.trans (hb.mono lv.size)
      have hB1 : X.heap.size + 1 < Y.heap.size := by omega
      clear hsz
      refine hK.out _ _ (hSof _ lv) (fun _ => ?_)
      clear hK K
      try simp only [Act.put, qb23a, qb23z, qb23s]
      obtain ⟨X, rfl⟩ : ∃ X, X = Y := ⟨_, rfl⟩
      refine wpAnyH_ready (rs := [5, 6]) (by kernel_rfl) (by simp) ?_
      refine AllReadyH.cons (o := ⟨some 21, _, _, _, _, _⟩) rfl (fun K hK => ?_) (AllReadyH.cons (o := ⟨some 8, _, _, _, _, _⟩) rfl (fun K hK => ?_) AllReadyH.nil)
      · go_simp
        refine (HS _ _ _ lv (Nat.lt_of_succ_lt hB1) hB1 hc1 hc2).mono ?_
        rintro e Y ⟨rfl, hb⟩
        have lv := lv.trans (hb.mono lv.size)
        refine hK.out _ _ (hSof _ lv) (fun _ => ?_)
        clear hK K
        try simp only [Act.put, qb23a, qb23z, qb23s]
        obtain ⟨X, rfl⟩ : ∃ X, X = Y := ⟨_, rfl⟩
        refine wpAnyH_ready (rs := [6]) (by kernel_rfl) (by simp) ?_
        refine AllReadyH.cons (o := ⟨some 8, _, _, _, _, _⟩) rfl (fun K hK => ?_) AllReadyH.nil
        go_simp
        have bn := belowNew X (.cells #[.string ⟨#[]⟩, .string ⟨#[]⟩] 61)
        have ro := RC.new X 61 (.string ⟨#[]⟩) (.string ⟨#[]⟩)
        have hTo := lv.size
        have lv := lv.trans (bn.mono lv.size)
        refine hK.out _ _ (hSof _ lv) (fun _ => ?_)
        clear hK K bn
        try simp only [Act.put, qb23a, qb23z, qb23s]
        obtain ⟨To, hToe⟩ : ∃ To, To = X.heap.size := ⟨_, rfl⟩
        rw [← hToe] at ro hTo ⊢
        clear hToe
        generalize X.alloc (.cells #[.string ⟨#[]⟩, .string ⟨#[]⟩] 61) = X at *
        refine wpAnyH_ready (rs := [7]) (by kernel_rfl) (by simp) ?_
        refine AllReadyH.cons (o := ⟨none, .store _ (.tmp 8) (.tmp 21), _, _, _, _⟩) rfl (fun K hK => ?_) AllReadyH.nil
        have c0 := ro.c00
        have c1 := ro.c01
        have f0 := ro.f0
        go_simp
        have lv := Below.put2 lv hTo (.string q1) (.string q2)
        have ro := ro.put (.string q1) (.string q2)
        refine hK.out _ _ (hSof _ lv) (fun _ => ?_)
        clear hK K
        try simp only [Act.put, qb23a, qb23z, qb23s]
        refine wpAnyH_done (by kernel_rfl) ?_ _
        exact HQ.out _ _ _ ro hTo lv
      · go_simp
        have bn := belowNew X (.cells #[.string ⟨#[]⟩, .string ⟨#[]⟩] 61)
        have ro := RC.new X 61 (.string ⟨#[]⟩) (.string ⟨#[]⟩)
        have hTo := lv.size
        have lv := lv.trans (bn.mono lv.size)
        have hc1 := (bn.block _ (Nat.lt_of_succ_lt hB1)).trans hc1
        have hc2 := (bn.block _ hB1).trans hc2
        have hB1 := Nat.lt_of_lt_of_le hB1 bn.size
        refine hK.out _ _ (hSof _ lv) (fun _ => ?_)
        clear hK K bn
        try simp only [Act.put, qb23a, qb23z, qb23s]
        obtain ⟨To, hToe⟩ : ∃ To, To = X.heap.size := ⟨_, rfl⟩
        rw [← hToe] at ro hTo ⊢
        clear hToe
        generalize X.alloc (.cells #[.string ⟨#[]⟩, .string ⟨#[]⟩] 61) = X at *
        refine wpAnyH_ready (rs := [5]) (by kernel_rfl) (by simp) ?_
        refine AllReadyH.cons (o := ⟨some 21, _, _, _, _, _⟩) rfl (fun K hK => ?_) AllReadyH.nil
        go_simp
        refine (HS _ _ _ lv (Nat.lt_of_succ_lt hB1) hB1 hc1 hc2).mono ?_
        rintro e Y ⟨rfl, hb⟩
        have lv := lv.trans (hb.mono lv.size)
        have ro := ro.below hb
        refine hK.out _ _ (hSof _ lv) (fun _ => ?_)
        clear hK K
        try simp only [Act.put, qb23a, qb23z, qb23s]
        obtain ⟨X, rfl⟩ : ∃ X, X = Y := ⟨_, rfl⟩
        refine wpAnyH_ready (rs := [7]) (by kernel_rfl) (by simp) ?_
        refine AllReadyH.cons (o := ⟨none, .store _ (.tmp 8) (.tmp 21), _, _, _, _⟩) rfl (fun K hK => ?_) AllReadyH.nil
        have c0 := ro.c00
        have c1 := ro.c01
        have f0 := ro.f0
        go_simp
        have lv := Below.put2 lv hTo (.string q1) (.string q2)
        have ro := ro.put (.string q1) (.string q2)
        refine hK.out _ _ (hSof _ lv) (fun _ => ?_)
        clear hK K
        try simp only [Act.put, qb23a, qb23z, qb23s]
        refine wpAnyH_done (by kernel_rfl) ?_ _
        exact HQ.out _ _ _ ro hTo lv
    · go_simp
      have bn := belowNew X (.cells #[.string ⟨#[]⟩, .string ⟨#[]⟩] 61)
      have ro := RC.new X 61 (.string ⟨#[]⟩) (.string ⟨#[]⟩)
      have hTo := lv.size
      have lv := lv.trans (bn.mono lv.size)
      refine hK.out _ _ (hSof _ lv) (fun _ => ?_)
      clear hK K bn
      try simp only [Act.put, qb23a, qb23z, qb23s]
      obtain ⟨To, hToe⟩ : ∃ To, To = X.heap.size := ⟨_, rfl⟩
      rw [← hToe] at ro hTo ⊢
      clear hToe
      generalize X.alloc (.cells #[.string ⟨#[]⟩, .string ⟨#[]⟩] 61) = X at *
      refine wpAnyH_ready (rs := [4]) (by kernel_rfl) (by simp) ?_
      refine AllReadyH.cons (o := ⟨some 20, _, _, _, _, _⟩) rfl (fun K hK => ?_) AllReadyH.nil
      go_simp
      refine (HT _).mono ?_
      rintro e Y ⟨rfl, hb, hc1, hc2, hsz⟩
      have lv := lv.trans (hb.mono lv.size)
      have ro := ro.below hb
      have hB1 : X.heap.size + 1 < Y.heap.size := by omega
      clear hsz
      refine hK.out _ _ (hSof _ lv) (fun _ => ?_)
      clear hK K
      try simp only [Act.put, qb23a, qb23z, qb23s]
      obtain ⟨X, rfl⟩ : ∃ X, X = Y := ⟨_, rfl⟩
      refine wpAnyH_ready (rs := [5]) (by kernel_rfl) (by simp) ?_
      refine AllReadyH.cons (o := ⟨some 21, _, _, _, _, _⟩) rfl (fun K hK => ?_) AllReadyH.nil
      go_simp
      refine (HS _ _ _ lv (Nat.lt_of_succ_lt hB1) hB1 hc1 hc2).mono ?_
      rintro e Y ⟨rfl, hb⟩
      have lv := lv.trans (hb.mono lv.size)
      have ro := ro.below hb
      refine hK.out _ _ (hSof _ lv) (fun _ => ?_)
      clear hK K
      try simp only [Act.put, qb23a, qb23z, qb23s]
      obtain ⟨X, rfl⟩ : ∃ X, X = Y := ⟨_, rfl⟩
      refine wpAnyH_ready (rs := [7]) (by kernel_rfl) (by simp) ?_
      refine AllReadyH.cons (o := ⟨none, .store _ (.tmp 8) (.tmp 21), _, _, _, _⟩) rfl (fun K hK => ?_) AllReadyH.nil
      have c0 := ro.c00
      have c1 := ro.c01
      have f0 := ro.f0
      go_simp
      have lv := Below.put2 lv hTo (.string q1) (.string q2)
      have ro := ro.put (.string q1) (.string q2)
      refine hK.out _ _ (hSof _ lv) (fun _ => ?_)
      clear hK K
      try simp only [Act.put, qb23a, qb23z, qb23s]
      refine wpAnyH_done (by kernel_rfl) ?_ _
      exact HQ.out _ _ _ ro hTo lv
  · go_simp
    have bn := belowNew X (.cells #[.string ⟨#[]⟩, .string ⟨#[]⟩] 61)
    have ro := RC.new X 61 (.string ⟨#[]⟩) (.string ⟨#[]⟩)
    have hTo := lv.size
    have lv := lv.trans (bn.mono lv.size)
    refine hK.out _ _ (hSof _ lv) (fun _ => ?_)
    clear hK K bn
    try simp only [Act.put, qb23a, qb23z, qb23s]
    obtain ⟨To, hToe⟩ : ∃ To, To = X.heap.size := ⟨_, rfl⟩
    rw [← hToe] at ro hTo ⊢
    clear hToe
    generalize X.alloc (.cells #[.string ⟨#[]⟩, .string ⟨#[]⟩] 61) = X at *
    refine wpAnyH_ready (rs := [2]) (by kernel_rfl) (by simp) ?_
    refine AllReadyH.cons (o := ⟨some 18, _, _, _, _, _⟩) rfl (fun K hK => ?_) AllReadyH.nil
    go_simp
    refine (HW _ lv).mono ?_
    rintro e Y ⟨rfl, hb⟩
    have lv := lv.trans (hb.mono lv.size)
    have ro := ro.below hb
    refine hK.out _ _ (hSof _ lv) (fun _ => ?_)
    clear hK K
    try simp only [Act.put, qb23a, qb23z, qb23s]
    obtain ⟨X, rfl⟩ : ∃ X, X = Y := ⟨_, rfl⟩
    refine wpAnyH_ready (rs := [4]) (by kernel_rfl) (by simp) ?_
    refine AllReadyH.cons (o := ⟨some 20, _, _, _, _, _⟩) rfl (fun K hK => ?_) AllReadyH.nil
    go_simp
    refine (HT _).mono ?_
    rintro e Y ⟨rfl, hb, hc1, hc2, hsz⟩
    have lv := lv.trans (hb.mono lv.size)
    have ro := ro.below hb
    have hB1 : X.heap.size + 1 < Y.heap.size := by omega
    clear hsz
    refine hK.out _ _ (hSof _ lv) (fun _ => ?_)
    clear hK K
    try simp only [Act.put, qb23a, qb23z, qb23s]
    obtain ⟨X, rfl⟩ : ∃ X, X = Y := ⟨_, rfl⟩
    refine wpAnyH_ready (rs := [5]) (by kernel_rfl) (by simp) ?_
    refine AllReadyH.cons (o := ⟨some 21, _, _, _, _, _⟩) rfl (fun K hK => ?_) AllReadyH.nil
    go_simp
    refine (HS _ _ _ lv (Nat.lt_of_succ_lt hB1) hB1 hc1 hc2).mono ?_
    rintro e Y ⟨rfl, hb⟩
    have lv := lv.trans (hb.mono lv.size)
    have ro := ro.below hb
    refine hK.out _ _ (hSof _ lv) (fun _ => ?_)
    clear hK K
    try simp only [Act.put, qb23a, qb23z, qb23s]
    obtain ⟨X, rfl⟩ : ∃ X, X = Y := ⟨_, rfl⟩
    refine wpAnyH_ready (rs := [7]) (by kernel_rfl) (by simp) ?_
    refine AllReadyH.cons (o := ⟨none, .store _ (.tmp 8) (.tmp 21), _, _, _, _⟩) rfl (fun K hK => ?_) AllReadyH.nil
    have c0 := ro.c00
    have c1 := ro.c01
    have f0 := ro.f0
    go_simp
    have lv := Below.put2 lv hTo (.string q1) (.string q2)
    have ro := ro.put (.string q1) (.string q2)
    refine hK.out _ _ (hSof _ lv) (fun _ => ?_)
    clear hK K
    try simp only [Act.put, qb23a, qb23z, qb23s]
    refine wpAnyH_done (by kernel_rfl) ?_ _
    exact HQ.out _ _ _ ro hTo lv

end Go.Proofs.YtppbhnhmaocdnaaGreatDoor
namespace Go.Proofs.YtppbhnhmaocdnaaGreatDoor
open Go.RowKit Go.Shelf

def artT (k : Nat) (t sq : Int × Int) : Nat → Int × Int
  | 0 => t
  | i + 1 => pBy (pTimes k (artT k t sq i) sq) (2 * ((i : Int) + 1) - 1) (2 * ((i : Int) + 1) + 1)
def pArt (k : Nat) (t : Int × Int) (M : Nat) : Int × Int := pBy (sumP (artT k t (pTimes k t t)) M) 2 1
structure ArtOk (k : Nat) (t : Int × Int) (M : Nat) : Prop where
  sq : TimesOk k t t
  sum : SumB (artT k t (pTimes k t t)) M
  tm : ∀ i, i < M → TimesOk k (artT k t (pTimes k t t) i) (pTimes k t t)
  bm : ∀ i : Nat, i < M → ByOk (pTimes k (artT k t (pTimes k t t) i) (pTimes k t t)) (2 * ((i : Int) + 1) - 1) (2 * ((i : Int) + 1) + 1)
  out : ByOk (sumP (artT k t (pTimes k t t)) M) 2 1

set_option maxRecDepth 100000 in
set_option maxHeartbeats 4000000 in
theorem artanh_in (k : Nat) (t : Int × Int) (M : Nat) (w : World) (h : ArtOk k t M) (ht : TabOf w) :
    Calls Tryz.prog 90 #[SV k, NV t] w (NPost (pArt k t M) w) := by
  have HSQ := fun W h' => timesP (w := W) h.sq h'
  have HBY := fun W h' => byP (k := k) (w := W) h.out h'
  have HTE := termsC t (.func 132)
  have HSX : ∀ (bx : Nat) (V0 : World), (∀ V, Below V0.heap.size V0 V → TabOf V) → RC w.heap.size V0 (.int .i64 (k : Int)) (.string (str ((10 ^ k : Nat) : Int))) → RC bx V0 (.string (str (pTimes k t t).1)) (.string (str (pTimes k t t).2)) →
      SumC2 k (str ((10 ^ k : Nat) : Int)) (str t.1) (str t.2) (str (sumP (artT k t (pTimes k t t)) M).1) (str (sumP (artT k t (pTimes k t t)) M).2) (.func (.func 132) #[] #[.pointer (some ⟨w.heap.size, 0, none⟩), .pointer (some ⟨bx, 0, none⟩)]) V0 :=
    fun bx V0 h1 h2 h3 => sumC2 k h.sq.hk _ _ (artT k t (pTimes k t t)) M V0 h1 h.sum ent_art1_in
      (fun i hi A hA => art1_in k w.heap.size bx i (pTimes k t t) (artT k t (pTimes k t t) i) A (h2.belowB hA (ltOf h2.c00)) (h3.belowB hA (ltOf h3.c00)) (h.tm i hi) (h.bm i hi) (by have := h.sum.hM; omega) (h1 A hA))
  unfold NPost NV SV at HSQ HBY
  unfold NPost NV SV pArt
  generalize str (pBy (sumP (artT k t (pTimes k t t)) M) 2 1).1 = r1 at *
  generalize str (pBy (sumP (artT k t (pTimes k t t)) M) 2 1).2 = r2 at *
  generalize str (sumP (artT k t (pTimes k t t)) M).1 = q1 at *
  generalize str (sumP (artT k t (pTimes k t t)) M).2 = q2 at *
  generalize str (pTimes k t t).1 = m1 at *
  generalize str (pTimes k t t).2 = m2 at *
  generalize str t.1 = s1 at *
  generalize str t.2 = s2 at *
  generalize str ((10 ^ k : Nat) : Int) = one at *
  clear h
  have HSQ := Lib.hid HSQ
  have HBY := Lib.hid HBY
  have HTE := Lib.hid HTE
  have HSX := Lib.hid HSX
  obtain ⟨W0, hW0, k0, t0, o0, b0⟩ := boxes3 w 59 61 61 (.int .i64 (k : Int)) (.string one) (.string s1) (.string s2) (.string ⟨#[]⟩) (.string ⟨#[]⟩)
  subst hW0
  have x0 := k0.c00
  have x1 := k0.c01
  have x2 := t0.c00
  have x3 := t0.c01
  go_enter Tryz.func90, Tryz.ntmps90
  go_wp2_with (go_at_call 88; refine (HSQ.out _ (ht.below b0)).mono ?_; rintro e w1 ⟨rfl, hb1⟩; have k1 := k0.below hb1; have t1 := t0.below hb1; have o1 := o0.below hb1; have b1 := b0.trans (hb1.mono b0.size); have x0 := k1.c00; have x1 := k1.c01; have x2 := t1.c00; have x3 := t1.c01)
  have bn := belowNew w1 (.cells #[.string m1, .string m2] 61)
  have k2 := k1.below bn
  have t2 := t1.below bn
  have o2 := o1.below bn
  have b2 := b1.trans (bn.mono b1.size)
  have s2' := RC.new w1 61 (.string m1) (.string m2)
  refine artReg (hs := k2) (hf := t2) (HT := HTE.out _ _) (HS := HSX.out w1.heap.size _ (fun V hV => ht.below (b2.trans (hV.mono b2.size))) k2 s2') (hP := ?hP) (hQ := ?hQ)
  case hP => exact fun _ _ d _ _ h => by cases d <;> exact h
  case hQ =>
    intro To x F hro hTo hlF
    have k3 := k2.below hlF
    have o3 := o2.below hlF
    have b3 := b2.trans (hlF.mono b2.size)
    have y0 := k3.c00
    have y1 := k3.c01
    have y2 := hro.c00
    have y3 := hro.c01
    go_wp2_with (go_at_call 84; refine (HBY.out _ (ht.below b3)).mono ?_; rintro e w4 ⟨rfl, hb4⟩; have o4 := o3.below hb4; have b4 := b3.trans (hb4.mono b3.size); have z0 := o4.c00; have z1 := o4.c01; have z2 := o4.f0)
    have r5 := o4.put (.string r1) (.string r2)
    refine bodyPost_ret_by (v := .agg #[.string r1, .string r2]) (by simp [results, Tryz.f90, go_sem, r5.c00, r5.c01]) rfl ⟨rfl, below_put2 b4 _ _ (by omega)⟩
end Go.Proofs.YtppbhnhmaocdnaaGreatDoor
namespace Go.Proofs.YtppbhnhmaocdnaaGreatDoor
open Go.RowKit Go.Shelf

def halvT (x : Int × Int) : Nat → Int × Int
  | 0 => x
  | i + 1 => pBy (halvT x i) 1 2
def expT (k : Nat) (y : Int × Int) : Nat → Int × Int
  | 0 => pWhole k 1
  | i + 1 => pBy (pTimes k (expT k y i) y) 1 ((i : Int) + 1)
def sqT (k : Nat) (o : Int × Int) : Nat → Int × Int
  | 0 => o
  | j + 1 => pTimes k (sqT k o j) (sqT k o j)
def pExp (k : Nat) (x : Int × Int) (H M : Nat) : Int × Int := sqT k (sumP (expT k (halvT x H)) M) H

structure ExpOk (k : Nat) (x : Int × Int) (H M : Nat) : Prop where
  hk : k ≤ 150
  hH : H ≤ 1000
  fit : ∀ i, i ≤ H → (halvT x i).2.natAbs < big
  two : ∀ i, i ≤ H → ((halvT x i).2 * 2).natAbs < big
  go : ∀ i, i < H → ((10 ^ k : Nat) : Int) < (halvT x i).2 * 2
  stop : (halvT x H).2 * 2 ≤ ((10 ^ k : Nat) : Int)
  hby : ∀ i, i < H → ByOk (halvT x i) 1 2
  one : Fit (pWhole k 1)
  sum : SumB (expT k (halvT x H)) M
  tm : ∀ i, i < M → TimesOk k (expT k (halvT x H) i) (halvT x H)
  bm : ∀ i : Nat, i < M → ByOk (pTimes k (expT k (halvT x H) i) (halvT x H)) 1 ((i : Int) + 1)
  sq : ∀ j, j < H → TimesOk k (sqT k (sumP (expT k (halvT x H)) M) j) (sqT k (sumP (expT k (halvT x H)) M) j)

theorem cmpI_pos (x y : Int) : decide (0 < cmpI x y) = decide (y < x) := by
  rcases cmpI_cases x y with ⟨h, e⟩ | ⟨h, e⟩ | ⟨h, e⟩ <;> rw [e] <;> simp <;> omega

structure ExpI (w : World) (one : ByteArray) (k : Int) (x : Int × Int) (W : World) : Prop where
  s : RC w.heap.size W (.int .i64 k) (.string one)
  x : RC (w.heap.size + 1) W (.string (str x.1)) (.string (str x.2))
  o : RC (w.heap.size + 1 + 1) W (.string ⟨#[]⟩) (.string ⟨#[]⟩)
  b : Below w.heap.size w W
theorem ExpI.below {w : World} {one : ByteArray} {k : Int} {x : Int × Int} {W W' : World} (h : ExpI w one k x W) (hb : Below W.heap.size W W') : ExpI w one k x W' := ⟨h.s.below hb, h.x.below hb, h.o.below hb, h.b.trans (hb.mono h.b.size)⟩
theorem ExpI.drew {w : World} {one : ByteArray} {k : Int} {x : Int × Int} {W : World} (h : ExpI w one k x W) : ExpI w one k x W.drew := ⟨h.s.drew, h.x.drew, h.o.drew, h.b.drew⟩
theorem ExpI.put {w : World} {one : ByteArray} {k : Int} {x : Int × Int} {W : World} (h : ExpI w one k x W) (y : Int × Int) :
    ExpI w one k y ((W.setCell ⟨w.heap.size + 1, 0, none⟩ (.string (str y.1))).setCell ⟨w.heap.size + 1, 1, none⟩ (.string (str y.2))) :=
  ⟨h.s.otherPut (by omega) _ _, h.x.put _ _, h.o.otherPut (by omega) _ _, below_put2 h.b _ _ (by omega)⟩
structure SqI (w : World) (one : ByteArray) (k : Int) (To : Nat) (y : Int × Int) (W : World) : Prop where
  s : RC w.heap.size W (.int .i64 k) (.string one)
  x : RC To W (.string (str y.1)) (.string (str y.2))
  o : RC (w.heap.size + 1 + 1) W (.string ⟨#[]⟩) (.string ⟨#[]⟩)
  b : Below w.heap.size w W
theorem SqI.below {w : World} {one : ByteArray} {k : Int} {To : Nat} {x : Int × Int} {W W' : World} (h : SqI w one k To x W) (hb : Below W.heap.size W W') : SqI w one k To x W' := ⟨h.s.below hb, h.x.below hb, h.o.below hb, h.b.trans (hb.mono h.b.size)⟩
theorem SqI.put {w : World} {one : ByteArray} {k : Int} {To : Nat} {x : Int × Int} {W : World} (h : SqI w one k To x W) (hT : w.heap.size + 1 + 1 < To) (y : Int × Int) :
    SqI w one k To y ((W.setCell ⟨To, 0, none⟩ (.string (str y.1))).setCell ⟨To, 1, none⟩ (.string (str y.2))) :=
  ⟨h.s.otherPut (by omega) _ _, h.x.put _ _, h.o.otherPut (by omega) _ _, below_put2 h.b _ _ (by omega)⟩

set_option maxRecDepth 100000 in
set_option maxHeartbeats 8000000 in
theorem exp_in (k : Nat) (x : Int × Int) (H M : Nat) (w : World) (h : ExpOk k x H M) (ht : TabOf w) :
    Calls Tryz.prog 42 #[SV k, NV x] w (NPost (pExp k x H M) w) := by
  have HM := Lib.hid (fun i (hi : i ≤ H) W h' => smul_in (halvT x i).2 2 W (h.fit i hi) two_big (h.two i hi) h')
  have HC := Lib.hid (fun i (hi : i ≤ H) W => cmp_in ((halvT x i).2 * 2) ((10 ^ k : Nat) : Int) W (h.two i hi) (ten_big h.hk))
  have HB := Lib.hid (fun i (hi : i < H) W h' => byP (k := k) (w := W) (h.hby i hi) h')
  have HQ := Lib.hid (fun j (hj : j < H) W h' => timesP (w := W) (h.sq j hj) h')
  have HW := Lib.hid (fun W h' => wholeP (k := k) (n := 1) (w := W) h.hk (by decide) h.one h')
  have HTE := Lib.hid (termsC (pWhole k 1) (.func 87))
  have HGO := Lib.hid h.go
  have HST := Lib.hid h.stop
  have hH := h.hH
  have HSX : Hid (∀ (V0 : World), (∀ V, Below V0.heap.size V0 V → TabOf V) → RC w.heap.size V0 (.int .i64 (k : Int)) (.string (str ((10 ^ k : Nat) : Int))) → RC (w.heap.size + 1) V0 (.string (str (halvT x H).1)) (.string (str (halvT x H).2)) →
      SumC2 k (str ((10 ^ k : Nat) : Int)) (str (pWhole k 1).1) (str (pWhole k 1).2) (str (sqT k (sumP (expT k (halvT x H)) M) 0).1) (str (sqT k (sumP (expT k (halvT x H)) M) 0).2) (.func (.func 87) #[] #[.pointer (some ⟨w.heap.size, 0, none⟩), .pointer (some ⟨w.heap.size + 1, 0, none⟩)]) V0) :=
    Lib.hid (fun V0 h1 h2 h3 => sumC2 k h.hk _ _ (expT k (halvT x H)) M V0 h1 h.sum ent_exp1_in
      (fun i hi A hA => exp1_in k w.heap.size (w.heap.size + 1) i (halvT x H) (expT k (halvT x H) i) A (h2.belowB hA (ltOf h2.c00)) (h3.belowB hA (ltOf h3.c00)) (h.tm i hi) (h.bm i hi) (by have := h.sum.hM; omega) (h1 A hA)))
  have HPO : Hid (NPost (pExp k x H M) w = fun e w' => e = .returned (.agg #[.string (str (sqT k (sumP (expT k (halvT x H)) M) H).1), .string (str (sqT k (sumP (expT k (halvT x H)) M) H).2)]) ∧ Below w.heap.size w w') := Lib.hid rfl
  rw [HPO.out]
  clear h
  generalize sumP (expT k (halvT x H)) M = o at *
  generalize hp : pWhole k 1 = p at *
  unfold SV at HB HQ HW ⊢
  unfold NPost NV at HB HQ HW
  unfold StrPost at HM
  rw [str_two] at HM
  unfold NV
  generalize ((10 ^ k : Nat) : Int) = O at *
  generalize hone : str O = one at *
  clear hp hone
  have hI0 : ∃ W, W = ((w.alloc (.cells #[.int .i64 (k : Int), .string one] 59)).alloc (.cells #[.string (str x.1), .string (str x.2)] 61)).alloc (.cells #[.string ⟨#[]⟩, .string ⟨#[]⟩] 61) ∧ ExpI w one k x W := by
    obtain ⟨W0, hW0, k0, t0, o0, b0⟩ := boxes3 w 59 61 61 (.int .i64 (k : Int)) (.string one) (.string (str x.1)) (.string (str x.2)) (.string ⟨#[]⟩) (.string ⟨#[]⟩)
    exact ⟨W0, hW0, k0, t0, o0, b0⟩
  obtain ⟨W0, hW0, hI⟩ := hI0
  subst hW0
  go_enter Tryz.func42, Tryz.ntmps42
  go_wp2
  go_loopw [5] (fun i W => ∃ m : Nat, i = .int .i64 m ∧ m ≤ H ∧ ExpI w one k (halvT x m) W) (fun i _ => H - (intOf i).toNat)
  case atStart => exact ⟨0, rfl, Nat.zero_le _, hI⟩
  case round =>
    obtain ⟨m, rfl, hm, hI⟩ := hrel
    have hM := Lib.hid (HM.out m hm)
    have hC := HC.out m hm
    have hd := cmpI_pos ((halvT x m).2 * 2) O
    have hId := hI.drew
    rcases Nat.lt_or_ge m H with hlt | hge
    · rw [decide_eq_true (HGO.out m hlt)] at hd
      have hB := HB.out m hlt
      have HPU := Lib.hid (fun W (h : ExpI w one k (halvT x m) W) => h.put (halvT x (m + 1)))
      have e1 : (pBy (halvT x m) 1 2) = halvT x (m + 1) := rfl
      rw [e1] at hB
      clear e1 HM HC HB HQ HW HTE HGO HST HSX HPO
      generalize cmpI ((halvT x m).2 * 2) O = c at *
      generalize str ((halvT x m).2 * 2) = m2 at *
      have hC := Lib.hid hC
      have hB := Lib.hid hB
      have y0 := hId.s.c01
      have y1 := hId.x.c01
      go_wp2
      go_region_held3 (fun W => W.cell? ⟨w.heap.size, 1, none⟩ = some (.string one) ∧ W.cell? ⟨w.heap.size + 1, 1, none⟩ = some (.string (str (halvT x m).2)))
        (first | with_reducible exact ⟨hId.s.c01, hId.x.c01⟩ | with_reducible exact ⟨i1.s.c01, i1.x.c01⟩ | with_reducible exact ⟨i2.s.c01, i2.x.c01⟩) (first
        | (go_at_call 54; refine (hM.out (World.drew _) (ht.below hId.b)).mono ?_; rintro e w1 ⟨rfl, hb1⟩; have i1 := hId.below hb1)
        | (go_at_call 52; refine (hC.out _).mono ?_; rintro e w2 ⟨rfl, hb2⟩; have i2 := i1.below hb2))
      all_goals
        have z0 := i2.s.c00
        have z1 := i2.s.c01
        have z2 := i2.x.c00
        have z3 := i2.x.c01
        go_wp2_with (go_at_call 84; refine (hB.out _ (ht.below i2.b)).mono ?_; rintro e w3 ⟨rfl, hb3⟩; have i3 := i2.below hb3; have z0 := i3.x.c00; have z1 := i3.x.c01; have z2 := i3.x.f0)
        go_roundw
        case rel => exact ⟨m + 1, by push_cast; rfl, by omega, HPU.out _ i3⟩
        case measure => simp [intOf]; omega
    · obtain rfl : m = H := by omega
      rw [show decide (O < (halvT x m).2 * 2) = false from decide_eq_false (by have := HST.out; omega)] at hd
      generalize cmpI ((halvT x m).2 * 2) O = c at *
      generalize str ((halvT x m).2 * 2) = m2 at *
      have hC := Lib.hid hC
      have y0 := hId.s.c01
      have y1 := hId.x.c01
      clear HM HC HB HGO HST
      go_wp2
      go_region_held3 (fun W => W.cell? ⟨w.heap.size, 1, none⟩ = some (.string one) ∧ W.cell? ⟨w.heap.size + 1, 1, none⟩ = some (.string (str (halvT x m).2)))
        (first | with_reducible exact ⟨hId.s.c01, hId.x.c01⟩ | with_reducible exact ⟨i1.s.c01, i1.x.c01⟩ | with_reducible exact ⟨i2.s.c01, i2.x.c01⟩) (first
        | (go_at_call 54; refine (hM.out (World.drew _) (ht.below hId.b)).mono ?_; rintro e w1 ⟨rfl, hb1⟩; have i1 := hId.below hb1)
        | (go_at_call 52; refine (hC.out _).mono ?_; rintro e w2 ⟨rfl, hb2⟩; have i2 := i1.below hb2))
      go_wp2
      refine expReg (hs := i2.s) (HT := HTE.out _ _) (HS := HSX.out _ (fun V hV => ht.below (i2.b.trans (hV.mono i2.b.size))) i2.s i2.x) (HW := fun V hV => HW.out V (ht.below (i2.b.trans (hV.mono i2.b.size)))) (hP := ?hP) (hQ := ?hQ)
      case hP => exact fun _ _ d _ _ h => by cases d <;> exact h
      case hQ =>
        intro To xx F hro hTo hlF
        have i3 := i2.below hlF
        have hoi := ltOf i2.o.c00
        have hS0 : SqI w one k To (sqT k o 0) F := ⟨i3.s, hro, i3.o, i3.b⟩
        clear hd hC hM hI hId HTE HSX HW hlF i3 hro i2 y0 y1
        have hT2 : w.heap.size + 1 + 1 < To := by omega
        go_wp2
        go_loopw [26] (fun i W => ∃ j : Nat, i = .int .i64 j ∧ j ≤ m ∧ SqI w one k To (sqT k o j) W) (fun i _ => m - (intOf i).toNat)
        case atStart => exact ⟨0, rfl, Nat.zero_le _, hS0⟩
        case round =>
          obtain ⟨j, rfl, hj, hS⟩ := hrel
          rcases Nat.lt_or_ge j m with hlt | hge2
          · have hQ := HQ.out j hlt
            have HPU := Lib.hid (fun W (h : SqI w one k To (sqT k o j) W) => h.put hT2 (sqT k o (j + 1)))
            have e1 : pTimes k (sqT k o j) (sqT k o j) = sqT k o (j + 1) := rfl
            rw [e1] at hQ
            have hQ := Lib.hid hQ
            have z0 := hS.s.c00
            have z1 := hS.s.c01
            have z2 := hS.x.c00
            have z3 := hS.x.c01
            clear e1 HQ hS0 HPO
            go_wp2_with (go_at_call 88; refine (hQ.out _ (ht.below hS.b)).mono ?_; rintro e w3 ⟨rfl, hb3⟩; have i3 := hS.below hb3; have z0 := i3.x.c00; have z1 := i3.x.c01; have z2 := i3.x.f0)
            go_roundw
            case rel => exact ⟨j + 1, by push_cast; rfl, by omega, HPU.out _ i3⟩
            case measure => simp [intOf]; omega
          · obtain rfl : j = m := by omega
            have z2 := hS.x.c00
            have z3 := hS.x.c01
            have z4 := hS.o.c00
            have z5 := hS.o.c01
            have z6 := hS.o.f0
            have r5 := hS.o.put (.string (str (sqT k o j).1)) (.string (str (sqT k o j).2))
            have hb5 := below_put2 hS.b (.string (str (sqT k o j).1)) (.string (str (sqT k o j).2)) (R := w.heap.size + 1 + 1) (by omega)
            clear hS hS0 HQ HPO
            go_wp2
            refine bodyPost_ret_by (v := .agg #[.string (str (sqT k o j).1), .string (str (sqT k o j).2)]) (by simp [results, Tryz.f42, go_sem, r5.c00, r5.c01]) rfl ⟨rfl, hb5⟩
end Go.Proofs.YtppbhnhmaocdnaaGreatDoor
namespace Go.Proofs.YtppbhnhmaocdnaaGreatDoor
open Go.RowKit Go.Shelf

structure OfOk (k : Nat) (n d : Int) : Prop where
  hk : k ≤ 150
  hn : n.natAbs < big
  hd : d.natAbs < big
  d0 : d ≠ 0
  h1 : (n * ((10 ^ k : Nat) : Int)).natAbs < big
  h2 : (n * ((10 ^ k : Nat) : Int) / d + 1).natAbs < big
theorem ofP {k : Nat} {n d : Int} {w : World} (h : OfOk k n d) (ht : TabOf w) : Calls Tryz.prog 43 #[SV k, RV n d] w (NPost (pOf k n d) w) :=
  sof_in k n d w h.hk h.hn h.hd h.d0 h.h1 h.h2 ht
structure RootOk (k : Nat) (a : Int × Int) (r1 r2 : Nat) : Prop where
  hk : k ≤ 150
  e1 : a.1 = (a.1.toNat : Int)
  e2 : a.2 = (a.2.toNat : Int)
  p1 : 0 < a.1.toNat
  p2 : 0 < a.2.toNat
  b1 : a.1.toNat < big
  b2 : a.2.toNat < big
  h1 : a.1.toNat * 10 ^ k < big
  h2 : a.2.toNat * 10 ^ k < big
  q1 : IsRoot (a.1.toNat * 10 ^ k) r1
  q2 : IsRoot (a.2.toNat * 10 ^ k) r2
  q3 : r2 + 1 < big
def pRoot (r1 r2 : Nat) : Int × Int := ((r1 : Int), (r2 : Int) + 1)
theorem rootP {k : Nat} {a : Int × Int} {r1 r2 : Nat} {w : World} (h : RootOk k a r1 r2) (ht : TabOf w) : Calls Tryz.prog 117 #[SV k, NV a] w (NPost (pRoot r1 r2) w) := by
  have := sroot_in k a.1.toNat a.2.toNat r1 r2 w h.hk h.b1 h.b2 h.p1 h.p2 h.h1 h.h2 h.q1 h.q2 h.q3 ht
  rw [← h.e1, ← h.e2] at this
  exact this
def pPi (k : Nat) : Int × Int := ((piN k : Int), (piN k : Int) + 1)
theorem piP {k : Nat} {w : World} (hk : k ≤ 80) (ht : TabOf w) : Calls Tryz.prog 118 #[SV k] w (NPost (pPi k) w) := spi_in k w hk ht
structure PlusOk (a b : Int × Int) : Prop where
  fa : Fit a
  fb : Fit b
  r : Fit (pPlus a b)
theorem plusP {k : Nat} {a b : Int × Int} {w : World} (h : PlusOk a b) (ht : TabOf w) : Calls Tryz.prog 91 #[SV k, NV a, NV b] w (NPost (pPlus a b) w) :=
  splus2_in k a.1 a.2 b.1 b.2 w h.fa.1 h.fa.2 h.fb.1 h.fb.2 h.r.1 h.r.2 ht
structure MinusOk (a b : Int × Int) : Prop where
  fa : Fit a
  fb : Fit b
  r : Fit (pMinus a b)
theorem minusP {k : Nat} {a b : Int × Int} {w : World} (h : MinusOk a b) (ht : TabOf w) : Calls Tryz.prog 107 #[SV k, NV a, NV b] w (NPost (pMinus a b) w) :=
  sminus_in k a.1 a.2 b.1 b.2 w h.fa.1 h.fa.2 h.fb.1 h.fb.2 h.r.1 h.r.2 ht

def halfT (k : Nat) (v sq : Int × Int) : Nat → Int × Int
  | 0 => v
  | i + 1 => pBy (pTimes k (halfT k v sq i) sq) 1 (2 * ((i : Int) + 1) + 1)
def pHalfSq (k : Nat) (n d : Int) : Int × Int := pTimes k (pOf k n d) (pOf k n d)
def pHalfAbove (k : Nat) (n d : Int) (M : Nat) : Int × Int := sumP (halfT k (pOf k n d) (pHalfSq k n d)) M
def pHalf (k : Nat) (n d : Int) (M H M2 r1 r2 : Nat) : Int × Int := pOver k (pHalfAbove k n d M) (pTimes k (pExp k (pBy (pHalfSq k n d) 1 2) H M2) (pRoot r1 r2))
structure HalfOk (k : Nat) (n d : Int) (M H M2 r1 r2 : Nat) : Prop where
  hk : k ≤ 80
  of : OfOk k n d
  sq : TimesOk k (pOf k n d) (pOf k n d)
  sum : SumB (halfT k (pOf k n d) (pHalfSq k n d)) M
  tm : ∀ i, i < M → TimesOk k (halfT k (pOf k n d) (pHalfSq k n d) i) (pHalfSq k n d)
  bm : ∀ i : Nat, i < M → ByOk (pTimes k (halfT k (pOf k n d) (pHalfSq k n d) i) (pHalfSq k n d)) 1 (2 * ((i : Int) + 1) + 1)
  by2 : ByOk (pHalfSq k n d) 1 2
  ex : ExpOk k (pBy (pHalfSq k n d) 1 2) H M2
  p2 : ByOk (pPi k) 2 1
  rt : RootOk k (pBy (pPi k) 2 1) r1 r2
  dn : TimesOk k (pExp k (pBy (pHalfSq k n d) 1 2) H M2) (pRoot r1 r2)
  ov : OverOk k (pHalfAbove k n d M) (pTimes k (pExp k (pBy (pHalfSq k n d) 1 2) H M2) (pRoot r1 r2))

structure HalfI (w : World) (one : ByteArray) (k : Int) (To T6 : Nat) (q1 q2 m1 m2 : ByteArray) (W : World) : Prop where
  s : RC w.heap.size W (.int .i64 k) (.string one)
  o : RC (w.heap.size + 1 + 1) W (.string ⟨#[]⟩) (.string ⟨#[]⟩)
  q : RC T6 W (.string m1) (.string m2)
  a : RC To W (.string q1) (.string q2)
  b : Below w.heap.size w W
theorem HalfI.below {w : World} {one : ByteArray} {k : Int} {To T6 : Nat} {q1 q2 m1 m2 : ByteArray} {W W' : World} (h : HalfI w one k To T6 q1 q2 m1 m2 W) (hb : Below W.heap.size W W') : HalfI w one k To T6 q1 q2 m1 m2 W' :=
  ⟨h.s.below hb, h.o.below hb, h.q.below hb, h.a.below hb, h.b.trans (hb.mono h.b.size)⟩
theorem HalfI.drew {w : World} {one : ByteArray} {k : Int} {To T6 : Nat} {q1 q2 m1 m2 : ByteArray} {W : World} (h : HalfI w one k To T6 q1 q2 m1 m2 W) : HalfI w one k To T6 q1 q2 m1 m2 W.drew := h.below (Below.refl _ W).drew

set_option maxRecDepth 100000 in
set_option maxHeartbeats 8000000 in
theorem half_in (k : Nat) (n d : Int) (M H M2 r1 r2 : Nat) (w : World) (h : HalfOk k n d M H M2 r1 r2) (ht : TabOf w) :
    Calls Tryz.prog 108 #[SV k, RV n d] w (NPost (pHalf k n d M H M2 r1 r2) w) := by
  have HOF := fun W h' => ofP (w := W) h.of h'
  have HSQ := fun W h' => timesP (w := W) h.sq h'
  have HB2 := fun W h' => byP (k := k) (w := W) h.by2 h'
  have HEX := fun W h' => exp_in k (pBy (pHalfSq k n d) 1 2) H M2 W h.ex h'
  have HPI := fun W h' => piP (k := k) (w := W) h.hk h'
  have HP2 := fun W h' => byP (k := k) (w := W) h.p2 h'
  have HRT := fun W h' => rootP (w := W) h.rt h'
  have HDN := fun W h' => timesP (w := W) h.dn h'
  have HOV := fun W h' => overP (w := W) h.ov h'
  have HTE := termsC (pOf k n d) (.func 147)
  have HSX : ∀ (bx : Nat) (V0 : World), (∀ V, Below V0.heap.size V0 V → TabOf V) → RC w.heap.size V0 (.int .i64 (k : Int)) (.string (str ((10 ^ k : Nat) : Int))) → RC bx V0 (.string (str (pHalfSq k n d).1)) (.string (str (pHalfSq k n d).2)) →
      SumC2 k (str ((10 ^ k : Nat) : Int)) (str (pOf k n d).1) (str (pOf k n d).2) (str (pHalfAbove k n d M).1) (str (pHalfAbove k n d M).2) (.func (.func 147) #[] #[.pointer (some ⟨w.heap.size, 0, none⟩), .pointer (some ⟨bx, 0, none⟩)]) V0 :=
    fun bx V0 h1 h2 h3 => sumC2 k h.sq.hk _ _ (halfT k (pOf k n d) (pHalfSq k n d)) M V0 h1 h.sum ent_half1_in
      (fun i hi A hA => half1_in k w.heap.size bx i (pHalfSq k n d) (halfT k (pOf k n d) (pHalfSq k n d) i) A (h2.belowB hA (ltOf h2.c00)) (h3.belowB hA (ltOf h3.c00)) (h.tm i hi) (h.bm i hi) (by have := h.sum.hM; omega) (h1 A hA))
  unfold NPost NV SV RV at HOF
  unfold NPost NV SV at HSQ HB2 HEX HPI HP2 HRT HDN HOV
  unfold NPost NV SV RV pHalf
  have esq : pTimes k (pOf k n d) (pOf k n d) = pHalfSq k n d := rfl
  rw [esq] at HSQ
  clear h esq
  generalize pOver k (pHalfAbove k n d M) (pTimes k (pExp k (pBy (pHalfSq k n d) 1 2) H M2) (pRoot r1 r2)) = RR at *
  generalize pTimes k (pExp k (pBy (pHalfSq k n d) 1 2) H M2) (pRoot r1 r2) = DN at *
  generalize pExp k (pBy (pHalfSq k n d) 1 2) H M2 = EX at *
  generalize pBy (pHalfSq k n d) 1 2 = S2 at *
  generalize pHalfAbove k n d M = AB at *
  generalize pHalfSq k n d = SQ at *
  generalize pOf k n d = VV at *
  generalize pRoot r1 r2 = RT at *
  generalize pBy (pPi k) 2 1 = P2 at *
  generalize pPi k = PP at *
  obtain ⟨RR1, RR2⟩ := RR
  obtain ⟨DN1, DN2⟩ := DN
  obtain ⟨EX1, EX2⟩ := EX
  obtain ⟨S21, S22⟩ := S2
  obtain ⟨AB1, AB2⟩ := AB
  obtain ⟨SQ1, SQ2⟩ := SQ
  obtain ⟨VV1, VV2⟩ := VV
  obtain ⟨RT1, RT2⟩ := RT
  obtain ⟨P21, P22⟩ := P2
  obtain ⟨PP1, PP2⟩ := PP
  dsimp only at *
  generalize str RR1 = RR1 at *
  generalize str RR2 = RR2 at *
  generalize str DN1 = DN1 at *
  generalize str DN2 = DN2 at *
  generalize str EX1 = EX1 at *
  generalize str EX2 = EX2 at *
  generalize str S21 = S21 at *
  generalize str S22 = S22 at *
  generalize str AB1 = q1 at *
  generalize str AB2 = q2 at *
  generalize str SQ1 = m1 at *
  generalize str SQ2 = m2 at *
  generalize str VV1 = s1 at *
  generalize str VV2 = s2 at *
  generalize str RT1 = RT1 at *
  generalize str RT2 = RT2 at *
  generalize str P21 = P21 at *
  generalize str P22 = P22 at *
  generalize str PP1 = PP1 at *
  generalize str PP2 = PP2 at *
  generalize str ((10 ^ k : Nat) : Int) = one at *
  generalize str n = n' at *
  generalize str d = d' at *
  have HOF := Lib.hid HOF
  have HSQ := Lib.hid HSQ
  have HB2 := Lib.hid HB2
  have HEX := Lib.hid HEX
  have HPI := Lib.hid HPI
  have HP2 := Lib.hid HP2
  have HRT := Lib.hid HRT
  have HDN := Lib.hid HDN
  have HOV := Lib.hid HOV
  have HTE := Lib.hid HTE
  have HSX := Lib.hid HSX
  obtain ⟨W0, hW0, k0, t0, o0, b0⟩ := boxes3 w 59 25 61 (.int .i64 (k : Int)) (.string one) (.string n') (.string d') (.string ⟨#[]⟩) (.string ⟨#[]⟩)
  subst hW0
  have x0 := k0.c00
  have x1 := k0.c01
  have x2 := t0.c00
  have x3 := t0.c01
  go_enter Tryz.func108, Tryz.ntmps108
  go_wp2_with (first
    | (go_at_call 43; refine (HOF.out _ (ht.below b0)).mono ?_; rintro e w1 ⟨rfl, hb1⟩; have bn1 := belowNew w1 (.cells #[.string s1, .string s2] 61); have k1 := (k0.below hb1).below bn1; have o1 := (o0.below hb1).below bn1; have b1 := (b0.trans (hb1.mono b0.size)).trans (bn1.mono (b0.trans (hb1.mono b0.size)).size); have v1 := RC.new w1 61 (.string s1) (.string s2); have x0 := k1.c00; have x1 := k1.c01; have x2 := v1.c00; have x3 := v1.c01)
    | (go_at_call 88; refine (HSQ.out _ (ht.below b1)).mono ?_; rintro e w2 ⟨rfl, hb2⟩; have bn2 := belowNew w2 (.cells #[.string m1, .string m2] 61); have k2 := (k1.below hb2).below bn2; have o2 := (o1.below hb2).below bn2; have v2 := (v1.below hb2).below bn2; have b2 := (b1.trans (hb2.mono b1.size)).trans (bn2.mono (b1.trans (hb2.mono b1.size)).size); have g2 := RC.new w2 61 (.string m1) (.string m2)))
  refine halfReg (hs := k2) (hf := v2) (HT := HTE.out _ _) (HS := HSX.out w2.heap.size _ (fun V hV => ht.below (b2.trans (hV.mono b2.size))) k2 g2) (hP := ?hP) (hQ := ?hQ)
  case hP => exact fun _ _ d _ _ h => by cases d <;> exact h
  case hQ =>
    intro To x F hro hTo hlF
    have i0 : HalfI w one k To w2.heap.size q1 q2 m1 m2 F.drew := HalfI.drew ⟨k2.below hlF, o2.below hlF, g2.below hlF, hro, b2.trans (hlF.mono b2.size)⟩
    have hoT := ltOf o2.c00
    have hoF : w.heap.size + 1 + 1 < To := Nat.lt_of_lt_of_le hoT hTo
    have hw2 : w.heap.size + 1 + 1 < w2.heap.size := by have := ltOf (o1.below hb2).c00; exact this
    have n0 : w.heap.size + 1 + 1 ≠ w.heap.size := by omega
    have n1 : w.heap.size + 1 + 1 ≠ To := by omega
    have n2 : w.heap.size + 1 + 1 ≠ w2.heap.size := by omega
    clear k0 t0 o0 b0 k1 o1 b1 v1 k2 o2 v2 b2 g2 hro hlF bn1 bn2 x0 x1 x2 x3 hb1 hb2 hTo hoT hoF hw2 HOF HSQ HTE HSX
    go_wp2
    go_region_held3 (fun W => W.cell? ⟨w.heap.size, 0, none⟩ = some (.int .i64 (k : Int)) ∧ W.cell? ⟨w.heap.size, 1, none⟩ = some (.string one) ∧ W.cell? ⟨To, 0, none⟩ = some (.string q1) ∧ W.cell? ⟨To, 1, none⟩ = some (.string q2) ∧ W.cell? ⟨w2.heap.size, 0, none⟩ = some (.string m1) ∧ W.cell? ⟨w2.heap.size, 1, none⟩ = some (.string m2))
      (first
        | with_reducible exact ⟨i0.s.c00, i0.s.c01, i0.a.c00, i0.a.c01, i0.q.c00, i0.q.c01⟩
        | with_reducible exact ⟨i1.s.c00, i1.s.c01, i1.a.c00, i1.a.c01, i1.q.c00, i1.q.c01⟩
        | with_reducible exact ⟨i2.s.c00, i2.s.c01, i2.a.c00, i2.a.c01, i2.q.c00, i2.q.c01⟩
        | with_reducible exact ⟨i3.s.c00, i3.s.c01, i3.a.c00, i3.a.c01, i3.q.c00, i3.q.c01⟩
        | with_reducible exact ⟨i4.s.c00, i4.s.c01, i4.a.c00, i4.a.c01, i4.q.c00, i4.q.c01⟩
        | with_reducible exact ⟨i5.s.c00, i5.s.c01, i5.a.c00, i5.a.c01, i5.q.c00, i5.q.c01⟩
        | with_reducible exact ⟨i6.s.c00, i6.s.c01, i6.a.c00, i6.a.c01, i6.q.c00, i6.q.c01⟩
        | with_reducible exact ⟨i7.s.c00, i7.s.c01, i7.a.c00, i7.a.c01, i7.q.c00, i7.q.c01⟩
        | exact ⟨cell_put2 i7.s.c00 n0 _ _, cell_put2 i7.s.c01 n0 _ _, cell_put2 i7.a.c00 n1 _ _, cell_put2 i7.a.c01 n1 _ _, cell_put2 i7.q.c00 n2 _ _, cell_put2 i7.q.c01 n2 _ _⟩) (first
      | (have HA := HB2; go_at_call 84; refine (HA.out (World.drew _) (ht.below i0.b)).mono ?_; clear HB2 HA; rintro e w3 ⟨rfl, hb3⟩; have i1 := i0.below hb3)
      | (go_at_call 42; refine (HEX.out _ (ht.below i1.b)).mono ?_; rintro e w4 ⟨rfl, hb4⟩; have i2 := i1.below hb4)
      | (go_at_call 118; refine (HPI.out _ (ht.below i2.b)).mono ?_; rintro e w5 ⟨rfl, hb5⟩; have i3 := i2.below hb5)
      | (go_at_call 84; refine (HP2.out _ (ht.below i3.b)).mono ?_; rintro e w6 ⟨rfl, hb6⟩; have i4 := i3.below hb6)
      | (go_at_call 117; refine (HRT.out _ (ht.below i4.b)).mono ?_; rintro e w7 ⟨rfl, hb7⟩; have i5 := i4.below hb7)
      | (go_at_call 88; refine (HDN.out _ (ht.below i5.b)).mono ?_; rintro e w8 ⟨rfl, hb8⟩; have i6 := i5.below hb8)
      | (go_at_call 40; refine (HOV.out _ (ht.below i6.b)).mono ?_; rintro e w9 ⟨rfl, hb9⟩; have i7 := i6.below hb9; have z0 := i7.o.c00; have z1 := i7.o.c01; have z2 := i7.o.f0))
    all_goals
      go_wp2
      have r5 := i7.o.put (.string RR1) (.string RR2)
      refine bodyPost_ret_by (v := .agg #[.string RR1, .string RR2]) (by simp [results, Tryz.f108, go_sem, r5.c00, r5.c01]) rfl ⟨rfl, below_put2 i7.b _ _ (by omega)⟩
end Go.Proofs.YtppbhnhmaocdnaaGreatDoor
namespace Go.Proofs.YtppbhnhmaocdnaaGreatDoor
open Go.RowKit Go.Shelf

theorem hasPrefix_itoa (n : Int) : Lib.hasPrefix (Lib.itoa n) [45] = decide (n < 0) := by
  by_cases h : n < 0
  · rw [itoa_neg h, hasPrefix_dash]; simp [h]
  · rw [itoa_nonneg (by omega)]
    obtain ⟨b, r, e, h1, h2⟩ := dec_head_digit n.toNat
    rw [e, hasPrefix_dash]
    simp only [h, decide_false]
    rw [beq_eq_false_iff_ne]
    intro e; rw [e] at h1; exact absurd h1 (by decide)
theorem cutp_in (n : Int) (w : World) : Calls Tryz.prog 39 #[.string (str n), .string ⟨#[45]⟩] w fun e w' => e = .returned (.tuple #[.string (str (n.natAbs : Int)), .bool (decide (n < 0))]) ∧ w = w' :=
  (Tryz.strings_CutPrefix (str n) ⟨#[45]⟩ w).mono fun e w' h => ⟨by
    rw [h.1]
    have e1 : Lib.trimPrefix (str n).data.toList [45] = Lib.itoa (n.natAbs : Int) := by
      show body (str n).data.toList = _
      rw [str_list, body_itoa, itoa_nat]
    have e2 : Lib.hasPrefix (str n).data.toList [45] = decide (n < 0) := by rw [str_list, hasPrefix_itoa]
    show Ending.returned (.tuple #[.string ⟨(Lib.trimPrefix (str n).data.toList [45]).toArray⟩, .bool (Lib.hasPrefix (str n).data.toList [45])]) = _
    rw [e1, e2]; rfl, h.2.symm⟩
theorem hasp_in (n : Int) (w : World) : Calls Tryz.prog 63 #[.string (str n), .string ⟨#[45]⟩] w fun e w' => e = .returned (.bool (decide (n < 0))) ∧ w = w' :=
  (Tryz.strings_HasPrefix (str n) ⟨#[45]⟩ w).mono fun e w' h => ⟨by
    rw [h.1]
    have e2 : Lib.hasPrefix (str n).data.toList [45] = decide (n < 0) := by rw [str_list, hasPrefix_itoa]
    show Ending.returned (.bool (Lib.hasPrefix (str n).data.toList [45])) = _
    rw [e2], h.2.symm⟩

def pNormal (k : Nat) (n d : Int) (M H M2 r1 r2 : Nat) : Int × Int :=
  if n < 0 then pMinus (pOf k 1 2) (pHalf k (n.natAbs : Int) d M H M2 r1 r2) else pPlus (pOf k 1 2) (pHalf k (n.natAbs : Int) d M H M2 r1 r2)
structure NormOk (k : Nat) (n d : Int) (M H M2 r1 r2 : Nat) : Prop where
  hf : OfOk k 1 2
  h : HalfOk k (n.natAbs : Int) d M H M2 r1 r2
  mi : n < 0 → MinusOk (pOf k 1 2) (pHalf k (n.natAbs : Int) d M H M2 r1 r2)
  pl : ¬ n < 0 → PlusOk (pOf k 1 2) (pHalf k (n.natAbs : Int) d M H M2 r1 r2)

structure NorI (w : World) (one : ByteArray) (k : Int) (n' d' h1 h2 : ByteArray) (T5 : Nat) (W : World) : Prop where
  s : RC w.heap.size W (.int .i64 k) (.string one)
  x : RC (w.heap.size + 1) W (.string n') (.string d')
  o : RC (w.heap.size + 1 + 1) W (.string ⟨#[]⟩) (.string ⟨#[]⟩)
  v : RC T5 W (.string h1) (.string h2)
  b : Below w.heap.size w W
theorem NorI.below {w : World} {one : ByteArray} {k : Int} {n' d' h1 h2 : ByteArray} {T5 : Nat} {W W' : World} (h : NorI w one k n' d' h1 h2 T5 W) (hb : Below W.heap.size W W') : NorI w one k n' d' h1 h2 T5 W' :=
  ⟨h.s.below hb, h.x.below hb, h.o.below hb, h.v.below hb, h.b.trans (hb.mono h.b.size)⟩
theorem NorI.drew {w : World} {one : ByteArray} {k : Int} {n' d' h1 h2 : ByteArray} {T5 : Nat} {W : World} (h : NorI w one k n' d' h1 h2 T5 W) : NorI w one k n' d' h1 h2 T5 W.drew := h.below (Below.refl _ W).drew

set_option maxRecDepth 100000 in
set_option maxHeartbeats 8000000 in
theorem normal_in (k : Nat) (n d : Int) (M H M2 r1 r2 : Nat) (w : World) (h : NormOk k n d M H M2 r1 r2) (ht : TabOf w) :
    Calls Tryz.prog 62 #[SV k, RV n d] w (NPost (pNormal k n d M H M2 r1 r2) w) := by
  have HOF := fun W h' => ofP (w := W) h.hf h'
  have HHA := fun W h' => half_in k (n.natAbs : Int) d M H M2 r1 r2 W h.h h'
  have HCP := fun W => cutp_in n W
  have HRR : ∃ RR, RR = pNormal k n d M H M2 r1 r2 := ⟨_, rfl⟩
  obtain ⟨RR, hRR⟩ := HRR
  by_cases hneg : n < 0
  · have HMI := fun W h' => minusP (k := k) (w := W) (h.mi hneg) h'
    rw [← hRR]
    rw [pNormal, if_pos hneg] at hRR
    rw [← hRR] at HMI
    rw [decide_eq_true hneg] at HCP
    unfold NPost NV SV RV at HOF HHA
    unfold NPost NV SV at HMI
    unfold NPost NV SV RV
    rw [show str 1 = ⟨#[49]⟩ from str_one, str_two] at HOF
    clear h hRR hneg
    generalize pHalf k (n.natAbs : Int) d M H M2 r1 r2 = PH at *
    generalize pOf k 1 2 = HF at *
    obtain ⟨RR1, RR2⟩ := RR
    obtain ⟨PH1, PH2⟩ := PH
    obtain ⟨HF1, HF2⟩ := HF
    dsimp only at *
    generalize str RR1 = RR1 at *
    generalize str RR2 = RR2 at *
    generalize str PH1 = PH1 at *
    generalize str PH2 = PH2 at *
    generalize str HF1 = s1 at *
    generalize str HF2 = s2 at *
    generalize str ((10 ^ k : Nat) : Int) = one at *
    generalize str (n.natAbs : Int) = na at *
    generalize str n = n' at *
    generalize str d = d' at *
    have HOF := Lib.hid HOF
    have HHA := Lib.hid HHA
    have HCP := Lib.hid HCP
    have HMI := Lib.hid HMI
    obtain ⟨W0, hW0, k0, t0, o0, b0⟩ := boxes3 w 59 25 61 (.int .i64 (k : Int)) (.string one) (.string n') (.string d') (.string ⟨#[]⟩) (.string ⟨#[]⟩)
    subst hW0
    have x0 := k0.c00
    have x1 := k0.c01
    have x2 := t0.c00
    have x3 := t0.c01
    go_enter Tryz.func62, Tryz.ntmps62
    go_wp2_with (first
      | (go_at_call 43; refine (HOF.out _ (ht.below b0)).mono ?_; rintro e w1 ⟨rfl, hb1⟩; have bn1 := belowNew w1 (.cells #[.string s1, .string s2] 61); have i0 : NorI w one k n' d' s1 s2 w1.heap.size (w1.alloc (.cells #[.string s1, .string s2] 61)) := (⟨(k0.below hb1).below bn1, (t0.below hb1).below bn1, (o0.below hb1).below bn1, RC.new w1 _ _ _, (b0.trans (hb1.mono b0.size)).trans (bn1.mono (b0.trans (hb1.mono b0.size)).size)⟩); have x0 := i0.s.c00; have x1 := i0.s.c01; have x2 := i0.x.c00; have x3 := i0.x.c01)
      | (go_at_call 39; refine (HCP.out _).mono ?_; rintro e w2 ⟨rfl, rfl⟩))
    have j0 := i0.drew
    have hoT : w.heap.size + 1 + 1 < w1.heap.size := ltOf (o0.below hb1).c00
    have n0 : w.heap.size + 1 + 1 ≠ w.heap.size := by omega
    have n1 : w.heap.size + 1 + 1 ≠ w.heap.size + 1 := by omega
    have n2 : w.heap.size + 1 + 1 ≠ w1.heap.size := by omega
    clear k0 t0 o0 b0 i0 bn1 x0 x1 x2 x3 hb1 HOF HCP hoT
    go_region_held3 (fun W => W.cell? ⟨w.heap.size, 0, none⟩ = some (.int .i64 (k : Int)) ∧ W.cell? ⟨w.heap.size, 1, none⟩ = some (.string one) ∧ W.cell? ⟨w.heap.size + 1, 1, none⟩ = some (.string d') ∧ W.cell? ⟨w1.heap.size, 0, none⟩ = some (.string s1) ∧ W.cell? ⟨w1.heap.size, 1, none⟩ = some (.string s2))
      (first
        | with_reducible exact ⟨j0.s.c00, j0.s.c01, j0.x.c01, j0.v.c00, j0.v.c01⟩
        | with_reducible exact ⟨j1.s.c00, j1.s.c01, j1.x.c01, j1.v.c00, j1.v.c01⟩
        | with_reducible exact ⟨j2.s.c00, j2.s.c01, j2.x.c01, j2.v.c00, j2.v.c01⟩
        | exact ⟨cell_put2 j2.s.c00 n0 _ _, cell_put2 j2.s.c01 n0 _ _, cell_put2 j2.x.c01 n1 _ _, cell_put2 j2.v.c00 n2 _ _, cell_put2 j2.v.c01 n2 _ _⟩) (first
      | (go_at_call 108; refine (HHA.out (World.drew _) (ht.below j0.b)).mono ?_; rintro e w3 ⟨rfl, hb3⟩; have j1 := j0.below hb3)
      | (go_at_call 107; refine (HMI.out _ (ht.below j1.b)).mono ?_; rintro e w4 ⟨rfl, hb4⟩; have j2 := j1.below hb4; have z0 := j2.o.c00; have z1 := j2.o.c01; have z2 := j2.o.f0))
    all_goals
      go_wp2
      have r5 := j2.o.put (.string RR1) (.string RR2)
      refine bodyPost_ret_by (v := .agg #[.string RR1, .string RR2]) (by simp [results, Tryz.f62, go_sem, r5.c00, r5.c01]) rfl ⟨rfl, below_put2 j2.b _ _ (by omega)⟩
  · have HMI := fun W h' => plusP (k := k) (w := W) (h.pl hneg) h'
    rw [← hRR]
    rw [pNormal, if_neg hneg] at hRR
    rw [← hRR] at HMI
    rw [decide_eq_false hneg] at HCP
    have hnn : (n.natAbs : Int) = n := by omega
    rw [hnn] at HHA HMI hRR HCP
    unfold NPost NV SV RV at HOF HHA
    unfold NPost NV SV at HMI
    unfold NPost NV SV RV
    rw [show str 1 = ⟨#[49]⟩ from str_one, str_two] at HOF
    clear h hRR hneg hnn
    generalize pHalf k n d M H M2 r1 r2 = PH at *
    generalize pOf k 1 2 = HF at *
    obtain ⟨RR1, RR2⟩ := RR
    obtain ⟨PH1, PH2⟩ := PH
    obtain ⟨HF1, HF2⟩ := HF
    dsimp only at *
    generalize str RR1 = RR1 at *
    generalize str RR2 = RR2 at *
    generalize str PH1 = PH1 at *
    generalize str PH2 = PH2 at *
    generalize str HF1 = s1 at *
    generalize str HF2 = s2 at *
    generalize str ((10 ^ k : Nat) : Int) = one at *
    generalize str n = n' at *
    generalize str d = d' at *
    have HOF := Lib.hid HOF
    have HHA := Lib.hid HHA
    have HCP := Lib.hid HCP
    have HMI := Lib.hid HMI
    obtain ⟨W0, hW0, k0, t0, o0, b0⟩ := boxes3 w 59 25 61 (.int .i64 (k : Int)) (.string one) (.string n') (.string d') (.string ⟨#[]⟩) (.string ⟨#[]⟩)
    subst hW0
    have x0 := k0.c00
    have x1 := k0.c01
    have x2 := t0.c00
    have x3 := t0.c01
    go_enter Tryz.func62, Tryz.ntmps62
    go_wp2_with (first
      | (go_at_call 43; refine (HOF.out _ (ht.below b0)).mono ?_; rintro e w1 ⟨rfl, hb1⟩; have bn1 := belowNew w1 (.cells #[.string s1, .string s2] 61); have i0 : NorI w one k n' d' s1 s2 w1.heap.size (w1.alloc (.cells #[.string s1, .string s2] 61)) := (⟨(k0.below hb1).below bn1, (t0.below hb1).below bn1, (o0.below hb1).below bn1, RC.new w1 _ _ _, (b0.trans (hb1.mono b0.size)).trans (bn1.mono (b0.trans (hb1.mono b0.size)).size)⟩); have x0 := i0.s.c00; have x1 := i0.s.c01; have x2 := i0.x.c00; have x3 := i0.x.c01)
      | (go_at_call 39; refine (HCP.out _).mono ?_; rintro e w2 ⟨rfl, rfl⟩))
    have j0 := i0.drew
    have hoT : w.heap.size + 1 + 1 < w1.heap.size := ltOf (o0.below hb1).c00
    have n0 : w.heap.size + 1 + 1 ≠ w.heap.size := by omega
    have n1 : w.heap.size + 1 + 1 ≠ w.heap.size + 1 := by omega
    have n2 : w.heap.size + 1 + 1 ≠ w1.heap.size := by omega
    clear k0 t0 o0 b0 i0 bn1 x0 x1 x2 x3 hb1 HOF HCP hoT
    go_region_held3 (fun W => W.cell? ⟨w.heap.size, 0, none⟩ = some (.int .i64 (k : Int)) ∧ W.cell? ⟨w.heap.size, 1, none⟩ = some (.string one) ∧ W.cell? ⟨w.heap.size + 1, 0, none⟩ = some (.string n') ∧ W.cell? ⟨w.heap.size + 1, 1, none⟩ = some (.string d') ∧ W.cell? ⟨w1.heap.size, 0, none⟩ = some (.string s1) ∧ W.cell? ⟨w1.heap.size, 1, none⟩ = some (.string s2))
      (first
        | with_reducible exact ⟨j0.s.c00, j0.s.c01, j0.x.c00, j0.x.c01, j0.v.c00, j0.v.c01⟩
        | with_reducible exact ⟨j1.s.c00, j1.s.c01, j1.x.c00, j1.x.c01, j1.v.c00, j1.v.c01⟩
        | with_reducible exact ⟨j2.s.c00, j2.s.c01, j2.x.c00, j2.x.c01, j2.v.c00, j2.v.c01⟩
        | exact ⟨cell_put2 j2.s.c00 n0 _ _, cell_put2 j2.s.c01 n0 _ _, cell_put2 j2.x.c00 n1 _ _, cell_put2 j2.x.c01 n1 _ _, cell_put2 j2.v.c00 n2 _ _, cell_put2 j2.v.c01 n2 _ _⟩) (first
      | (go_at_call 108; refine (HHA.out (World.drew _) (ht.below j0.b)).mono ?_; rintro e w3 ⟨rfl, hb3⟩; have j1 := j0.below hb3)
      | (go_at_call 91; refine (HMI.out _ (ht.below j1.b)).mono ?_; rintro e w4 ⟨rfl, hb4⟩; have j2 := j1.below hb4; have z0 := j2.o.c00; have z1 := j2.o.c01; have z2 := j2.o.f0))
    all_goals
      go_wp2
      have r5 := j2.o.put (.string RR1) (.string RR2)
      refine bodyPost_ret_by (v := .agg #[.string RR1, .string RR2]) (by simp [results, Tryz.f62, go_sem, r5.c00, r5.c01]) rfl ⟨rfl, below_put2 j2.b _ _ (by omega)⟩
end Go.Proofs.YtppbhnhmaocdnaaGreatDoor
