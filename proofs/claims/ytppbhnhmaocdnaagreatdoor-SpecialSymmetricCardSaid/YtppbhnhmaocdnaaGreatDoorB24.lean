/- Walks and lemmas: Statements whose variable is made in whatever order beside the calls. PRINTED by wip/gc.py. log. tail. PRINTED by wip/gt.py. Cells of functions: the range. Cells of functions: is the argument in the range? -/
import Derived.Test.YtppbhnhmaocdnaaGreatDoorB23
set_option linter.unusedVariables false
set_option linter.unusedSimpArgs false
namespace Go.Proofs.YtppbhnhmaocdnaaGreatDoor
theorem qb24a {α : Type _} (l : List α) (i : Nat) (a : α) : l.toArray.setIfInBounds i a = (l.set i a).toArray := List.setIfInBounds_toArray ..
theorem qb24z {α : Type _} {x : α} {xs : List α} {a : α} : (x :: xs).set 0 a = a :: xs := rfl
theorem qb24s {α : Type _} {x : α} {xs : List α} {i : Nat} {a : α} : (x :: xs).set (i + 1) a = x :: xs.set i a := rfl
open Go.RowKit Go.Shelf

def GivesC (f : Nat) (args : Array Value) (r : Value) (V0 : World) : Prop := ∀ V : World, Below V0.heap.size V0 V → Calls Tryz.prog f args V fun e w' => e = .returned r ∧ Below V.heap.size V w'


noncomputable def logRegOps : Array Oper := ((Tryz.f48.body.bind (findRegion · 9)).getD #[])
set_option maxRecDepth 100000 in
set_option maxHeartbeats 8000000 in
theorem logReg (k : Int) (one s1 s2 q1 q2 : ByteArray) (bs : Nat) {u0 u1 u3 u4 u5 u6 u7 u8 u9 u10 u11 u12 u13 u14 u15 u16 u17 u18 u19 u20 u21 u22 u23 u24 u25 u26 u27 u28 u29 u30 u31 u32 u33 u34 u35 u36 u37 u38 u39 u40 u41 u42 u43 u44 u45 u46 u47 u48 u49 u50 u51 u52 u53 u54 u55 u56 u57 u58 u59 u60 u61 u62 : Value} (V : World) (Q : Exit → Act → World → Prop)
    (h_bs : RC bs V (.int .i64 k) (.string one))
    (H0 : GivesC 43 #[.agg #[.int .i64 k, .string one], .agg #[.string ⟨#[49]⟩, .string ⟨#[51]⟩]] (.agg #[.string s1, .string s2]) V) (H1 : GivesC 90 #[.agg #[.int .i64 k, .string one], .agg #[.string s1, .string s2]] (.agg #[.string q1, .string q2]) V)
    (hP : ∀ (c : List PanicEntry) (a : Act) (d : Option Tmp) (v : Value) (W : World), Q (.panic c) (a.put d v) W → Q (.panic c) a W)
    (hQ : ∀ (To : Nat) (F : World), RC To F (.string q1) (.string q2) → V.heap.size ≤ To → Below V.heap.size V F → Q .normal { tmps := #[u0, u1, .pointer (some ⟨bs, 0, none⟩), u3, u4, u5, u6, u7, u8, u9, u10, u11, u12, u13, .pointer (some ⟨To, 0, none⟩), u15, u16, u17, u18, u19, u20, u21, u22, u23, u24, u25, u26, u27, u28, u29, u30, u31, u32, u33, u34, u35, u36, u37, u38, u39, u40, u41, u42, u43, u44, u45, u46, .agg #[.int .i64 k, .string one], .agg #[.int .i64 k, .string one], .agg #[.string ⟨#[49]⟩, .string ⟨#[51]⟩], .agg #[.string s1, .string s2], .agg #[.string q1, .string q2], u52, u53, u54, u55, u56, u57, u58, u59, u60, u61, u62], defers := [] } F) :
    (Code.region 9 logRegOps true).wp Tryz.prog Q { tmps := #[u0, u1, .pointer (some ⟨bs, 0, none⟩), u3, u4, u5, u6, u7, u8, u9, u10, u11, u12, u13, u14, u15, u16, u17, u18, u19, u20, u21, u22, u23, u24, u25, u26, u27, u28, u29, u30, u31, u32, u33, u34, u35, u36, u37, u38, u39, u40, u41, u42, u43, u44, u45, u46, u47, u48, u49, u50, u51, u52, u53, u54, u55, u56, u57, u58, u59, u60, u61, u62], defers := [] } V := by
  have hSof : ∀ W, Below V.heap.size V W → (W.cell? ⟨bs, 0, none⟩ = some (.int .i64 k) ∧ W.cell? ⟨bs, 1, none⟩ = some (.string one)) := fun W hb => by
    have k_bs := h_bs.belowB hb (ltOf h_bs.c00)
    exact ⟨k_bs.c00, k_bs.c01⟩
  have HQ := Lib.hid hQ
  clear hQ
  refine wp_region_held_drew (S := fun W => W.cell? ⟨bs, 0, none⟩ = some (.int .i64 k) ∧ W.cell? ⟨bs, 1, none⟩ = some (.string one)) (by kernel_rfl) (hSof _ (Below.refl _ V).drew) (fun hHeld => ?_)
  have lv : Below V.heap.size V V.drew := (Below.refl _ V).drew
  generalize V.drew = X at *
  refine wpAnyH_take (i := 0) (oi := ⟨some 47, _, _, _, _, _⟩) (v := .agg #[.int .i64 k, .string one]) rfl (by kernel_rfl) (by kernel_rfl) (by kernel_rfl) (fun _ _ _ h => hP _ _ _ _ _ h) (Or.inl ⟨rfl, fun w' hSw => by (try dsimp only at hSw); go_simp; (try with_reducible rfl)⟩) (hSof _ lv) ?_
  try simp only [Act.put, qb24a, qb24z, qb24s]
  refine wpAnyH_take (i := 1) (oi := ⟨some 48, _, _, _, _, _⟩) (v := .agg #[.int .i64 k, .string one]) rfl (by kernel_rfl) (by kernel_rfl) (by kernel_rfl) (fun _ _ _ h => hP _ _ _ _ _ h) (Or.inl ⟨rfl, fun w' hSw => by (try dsimp only at hSw); go_simp; (try with_reducible rfl)⟩) (hSof _ lv) ?_
  try simp only [Act.put, qb24a, qb24z, qb24s]
  refine wpAnyH_take (i := 2) (oi := ⟨some 49, _, _, _, _, _⟩) (v := .agg #[.string ⟨#[49]⟩, .string ⟨#[51]⟩]) rfl (by kernel_rfl) (by kernel_rfl) (by kernel_rfl) (fun _ _ _ h => hP _ _ _ _ _ h) (Or.inl ⟨rfl, fun w' hSw => by (try dsimp only at hSw); go_simp; (try with_reducible rfl)⟩) (hSof _ lv) ?_
  try simp only [Act.put, qb24a, qb24z, qb24s]
  refine wpAnyH_ready (rs := [3, 5]) (by kernel_rfl) (by simp) ?_
  refine AllReadyH.cons (o := ⟨some 50, _, _, _, _, _⟩) rfl (fun K hK => ?_) (AllReadyH.cons (o := ⟨some 14, _, _, _, _, _⟩) rfl (fun K hK => ?_) AllReadyH.nil)
  · go_simp
    refine (H0 _ lv).mono ?_
    rintro e Y ⟨rfl, hb⟩
    have lv := lv.trans (hb.mono lv.size)
    refine hK.out _ _ (hSof _ lv) (fun _ => ?_)
    clear hK K
    try simp only [Act.put, qb24a, qb24z, qb24s]
    obtain ⟨X, rfl⟩ : ∃ X, X = Y := ⟨_, rfl⟩
    refine wpAnyH_ready (rs := [4, 5]) (by kernel_rfl) (by simp) ?_
    refine AllReadyH.cons (o := ⟨some 51, _, _, _, _, _⟩) rfl (fun K hK => ?_) (AllReadyH.cons (o := ⟨some 14, _, _, _, _, _⟩) rfl (fun K hK => ?_) AllReadyH.nil)
    · go_simp
      refine (H1 _ lv).mono ?_
      rintro e Y ⟨rfl, hb⟩
      have lv := lv.trans (hb.mono lv.size)
      refine hK.out _ _ (hSof _ lv) (fun _ => ?_)
      clear hK K
      try simp only [Act.put, qb24a, qb24z, qb24s]
      obtain ⟨X, rfl⟩ : ∃ X, X = Y := ⟨_, rfl⟩
      refine wpAnyH_ready (rs := [5]) (by kernel_rfl) (by simp) ?_
      refine AllReadyH.cons (o := ⟨some 14, _, _, _, _, _⟩) rfl (fun K hK => ?_) AllReadyH.nil
      go_simp
      have bn := belowNew X (.cells #[.string ⟨#[]⟩, .string ⟨#[]⟩] 61)
      have ro := RC.new X 61 (.string ⟨#[]⟩) (.string ⟨#[]⟩)
      have hTo := lv.size
      have lv := lv.trans (bn.mono lv.size)
      refine hK.out _ _ (hSof _ lv) (fun _ => ?_)
      clear hK K bn
      try simp only [Act.put, qb24a, qb24z, qb24s]
      obtain ⟨To, hToe⟩ : ∃ To, To = X.heap.size := ⟨_, rfl⟩
      rw [← hToe] at ro hTo ⊢
      clear hToe
      generalize X.alloc (.cells #[.string ⟨#[]⟩, .string ⟨#[]⟩] 61) = X at *
      refine wpAnyH_ready (rs := [6]) (by kernel_rfl) (by simp) ?_
      refine AllReadyH.cons (o := ⟨none, .store _ (.tmp 14) (.tmp 51), _, _, _, _⟩) rfl (fun K hK => ?_) AllReadyH.nil
      have c0 := ro.c00
      have c1 := ro.c01
      have f0 := ro.f0
      go_simp
      have lv := Below.put2 lv hTo (.string q1) (.string q2)
      have ro := ro.put (.string q1) (.string q2)
      refine hK.out _ _ (hSof _ lv) (fun _ => ?_)
      clear hK K
      try simp only [Act.put, qb24a, qb24z, qb24s]
      refine wpAnyH_done (by kernel_rfl) ?_ _
      exact HQ.out _ _ ro hTo lv
    · go_simp
      have bn := belowNew X (.cells #[.string ⟨#[]⟩, .string ⟨#[]⟩] 61)
      have ro := RC.new X 61 (.string ⟨#[]⟩) (.string ⟨#[]⟩)
      have hTo := lv.size
      have lv := lv.trans (bn.mono lv.size)
      refine hK.out _ _ (hSof _ lv) (fun _ => ?_)
      clear hK K bn
      try simp only [Act.put, qb24a, qb24z, qb24s]
      obtain ⟨To, hToe⟩ : ∃ To, To = X.heap.size := ⟨_, rfl⟩
      rw [← hToe] at ro hTo ⊢
      clear hToe
      generalize X.alloc (.cells #[.string ⟨#[]⟩, .string ⟨#[]⟩] 61) = X at *
      refine wpAnyH_ready (rs := [4]) (by kernel_rfl) (by simp) ?_
      refine AllReadyH.cons (o := ⟨some 51, _, _, _, _, _⟩) rfl (fun K hK => ?_) AllReadyH.nil
      go_simp
      refine (H1 _ lv).mono ?_
      rintro e Y ⟨rfl, hb⟩
      have lv := lv.trans (hb.mono lv.size)
      have ro := ro.below hb
      refine hK.out _ _ (hSof _ lv) (fun _ => ?_)
      clear hK K
      try simp only [Act.put, qb24a, qb24z, qb24s]
      obtain ⟨X, rfl⟩ : ∃ X, X = Y := ⟨_, rfl⟩
      refine wpAnyH_ready (rs := [6]) (by kernel_rfl) (by simp) ?_
      refine AllReadyH.cons (o := ⟨none, .store _ (.tmp 14) (.tmp 51), _, _, _, _⟩) rfl (fun K hK => ?_) AllReadyH.nil
      have c0 := ro.c00
      have c1 := ro.c01
      have f0 := ro.f0
      go_simp
      have lv := Below.put2 lv hTo (.string q1) (.string q2)
      have ro := ro.put (.string q1) (.string q2)
      refine hK.out _ _ (hSof _ lv) (fun _ => ?_)
      clear hK K
      try simp only [Act.put, qb24a, qb24z, qb24s]
      refine wpAnyH_done (by kernel_rfl) ?_ _
      exact HQ.out _ _ ro hTo lv
  · go_simp
    have bn := belowNew X (.cells #[.string ⟨#[]⟩, .string ⟨#[]⟩] 61)
    have ro := RC.new X 61 (.string ⟨#[]⟩) (.string ⟨#[]⟩)
    have hTo := lv.size
    have lv := lv.trans (bn.mono lv.size)
    refine hK.out _ _ (hSof _ lv) (fun _ => ?_)
    clear hK K bn
    try simp only [Act.put, qb24a, qb24z, qb24s]
    obtain ⟨To, hToe⟩ : ∃ To, To = X.heap.size := ⟨_, rfl⟩
    rw [← hToe] at ro hTo ⊢
    clear hToe
    generalize X.alloc (.cells #[.string ⟨#[]⟩, .string ⟨#[]⟩] 61) = X at *
    refine wpAnyH_ready (rs := [3]) (by kernel_rfl) (by simp) ?_
    refine AllReadyH.cons (o := ⟨some 50, _, _, _, _, _⟩) rfl (fun K hK => ?_) AllReadyH.nil
    go_simp
    refine (H0 _ lv).mono ?_
    rintro e Y ⟨rfl, hb⟩
    have lv := lv.trans (hb.mono lv.size)
    have ro := ro.below hb
    refine hK.out _ _ (hSof _ lv) (fun _ => ?_)
    clear hK K
    try simp only [Act.put, qb24a, qb24z, qb24s]
    obtain ⟨X, rfl⟩ : ∃ X, X = Y := ⟨_, rfl⟩
    refine wpAnyH_ready (rs := [4]) (by kernel_rfl) (by simp) ?_
    refine AllReadyH.cons (o := ⟨some 51, _, _, _, _, _⟩) rfl (fun K hK => ?_) AllReadyH.nil
    go_simp
    refine (H1 _ lv).mono ?_
    rintro e Y ⟨rfl, hb⟩
    have lv := lv.trans (hb.mono lv.size)
    have ro := ro.below hb
    refine hK.out _ _ (hSof _ lv) (fun _ => ?_)
    clear hK K
    try simp only [Act.put, qb24a, qb24z, qb24s]
    obtain ⟨X, rfl⟩ : ∃ X, X = Y := ⟨_, rfl⟩
    refine wpAnyH_ready (rs := [6]) (by kernel_rfl) (by simp) ?_
    refine AllReadyH.cons (o := ⟨none, .store _ (.tmp 14) (.tmp 51), _, _, _, _⟩) rfl (fun K hK => ?_) AllReadyH.nil
    have c0 := ro.c00
    have c1 := ro.c01
    have f0 := ro.f0
    go_simp
    have lv := Below.put2 lv hTo (.string q1) (.string q2)
    have ro := ro.put (.string q1) (.string q2)
    refine hK.out _ _ (hSof _ lv) (fun _ => ?_)
    clear hK K
    try simp only [Act.put, qb24a, qb24z, qb24s]
    refine wpAnyH_done (by kernel_rfl) ?_ _
    exact HQ.out _ _ ro hTo lv


noncomputable def tailReg1Ops : Array Oper := ((Tryz.f72.body.bind (findRegion · 1)).getD #[])
set_option maxRecDepth 100000 in
set_option maxHeartbeats 8000000 in
theorem tailReg1 (k : Int) (one n1 d1 s1 s2 q1 q2 : ByteArray) (bs bx : Nat) {u0 u1 u2 u5 u6 u7 u8 u9 u10 u11 u12 u13 u14 u15 u16 u17 u18 u19 u20 u21 u22 u23 u24 u25 u26 u27 u28 u29 u30 u31 u32 u33 u34 u35 u36 u37 u38 u39 u40 u41 u42 u43 u44 u45 u46 u47 u48 u49 u50 u51 u52 u53 u54 u55 u56 u57 u58 u59 u60 u61 u62 u63 : Value} (V : World) (Q : Exit → Act → World → Prop)
    (h_bs : RC bs V (.int .i64 k) (.string one)) (h_bx : RC bx V (.string n1) (.string d1))
    (H0 : GivesC 43 #[.agg #[.int .i64 k, .string one], .agg #[.string n1, .string d1]] (.agg #[.string s1, .string s2]) V) (H1 : GivesC 84 #[.agg #[.int .i64 k, .string one], .agg #[.string s1, .string s2], .int .i64 1, .int .i64 2] (.agg #[.string q1, .string q2]) V)
    (hP : ∀ (c : List PanicEntry) (a : Act) (d : Option Tmp) (v : Value) (W : World), Q (.panic c) (a.put d v) W → Q (.panic c) a W)
    (hQ : ∀ (To : Nat) (F : World), RC To F (.string q1) (.string q2) → V.heap.size ≤ To → Below V.heap.size V F → Q .normal { tmps := #[u0, u1, u2, .pointer (some ⟨bs, 0, none⟩), .pointer (some ⟨bx, 0, none⟩), u5, u6, .pointer (some ⟨To, 0, none⟩), u8, u9, u10, .agg #[.int .i64 k, .string one], .agg #[.int .i64 k, .string one], .agg #[.string n1, .string d1], .agg #[.string s1, .string s2], .agg #[.string q1, .string q2], u16, u17, u18, u19, u20, u21, u22, u23, u24, u25, u26, u27, u28, u29, u30, u31, u32, u33, u34, u35, u36, u37, u38, u39, u40, u41, u42, u43, u44, u45, u46, u47, u48, u49, u50, u51, u52, u53, u54, u55, u56, u57, u58, u59, u60, u61, u62, u63], defers := [] } F) :
    (Code.region 1 tailReg1Ops true).wp Tryz.prog Q { tmps := #[u0, u1, u2, .pointer (some ⟨bs, 0, none⟩), .pointer (some ⟨bx, 0, none⟩), u5, u6, u7, u8, u9, u10, u11, u12, u13, u14, u15, u16, u17, u18, u19, u20, u21, u22, u23, u24, u25, u26, u27, u28, u29, u30, u31, u32, u33, u34, u35, u36, u37, u38, u39, u40, u41, u42, u43, u44, u45, u46, u47, u48, u49, u50, u51, u52, u53, u54, u55, u56, u57, u58, u59, u60, u61, u62, u63], defers := [] } V := by
  have hSof : ∀ W, Below V.heap.size V W → (W.cell? ⟨bs, 0, none⟩ = some (.int .i64 k) ∧ W.cell? ⟨bs, 1, none⟩ = some (.string one) ∧ W.cell? ⟨bx, 0, none⟩ = some (.string n1) ∧ W.cell? ⟨bx, 1, none⟩ = some (.string d1)) := fun W hb => by
    have k_bs := h_bs.belowB hb (ltOf h_bs.c00)
    have k_bx := h_bx.belowB hb (ltOf h_bx.c00)
    exact ⟨k_bs.c00, k_bs.c01, k_bx.c00, k_bx.c01⟩
  have HQ := Lib.hid hQ
  clear hQ
  refine wp_region_held_drew (S := fun W => W.cell? ⟨bs, 0, none⟩ = some (.int .i64 k) ∧ W.cell? ⟨bs, 1, none⟩ = some (.string one) ∧ W.cell? ⟨bx, 0, none⟩ = some (.string n1) ∧ W.cell? ⟨bx, 1, none⟩ = some (.string d1)) (by kernel_rfl) (hSof _ (Below.refl _ V).drew) (fun hHeld => ?_)
  have lv : Below V.heap.size V V.drew := (Below.refl _ V).drew
  generalize V.drew = X at *
  refine wpAnyH_take (i := 0) (oi := ⟨some 11, _, _, _, _, _⟩) (v := .agg #[.int .i64 k, .string one]) rfl (by kernel_rfl) (by kernel_rfl) (by kernel_rfl) (fun _ _ _ h => hP _ _ _ _ _ h) (Or.inl ⟨rfl, fun w' hSw => by (try dsimp only at hSw); go_simp; (try with_reducible rfl)⟩) (hSof _ lv) ?_
  try simp only [Act.put, qb24a, qb24z, qb24s]
  refine wpAnyH_take (i := 1) (oi := ⟨some 12, _, _, _, _, _⟩) (v := .agg #[.int .i64 k, .string one]) rfl (by kernel_rfl) (by kernel_rfl) (by kernel_rfl) (fun _ _ _ h => hP _ _ _ _ _ h) (Or.inl ⟨rfl, fun w' hSw => by (try dsimp only at hSw); go_simp; (try with_reducible rfl)⟩) (hSof _ lv) ?_
  try simp only [Act.put, qb24a, qb24z, qb24s]
  refine wpAnyH_take (i := 2) (oi := ⟨some 13, _, _, _, _, _⟩) (v := .agg #[.string n1, .string d1]) rfl (by kernel_rfl) (by kernel_rfl) (by kernel_rfl) (fun _ _ _ h => hP _ _ _ _ _ h) (Or.inl ⟨rfl, fun w' hSw => by (try dsimp only at hSw); go_simp; (try with_reducible rfl)⟩) (hSof _ lv) ?_
  try simp only [Act.put, qb24a, qb24z, qb24s]
  refine wpAnyH_ready (rs := [3, 5]) (by kernel_rfl) (by simp) ?_
  refine AllReadyH.cons (o := ⟨some 14, _, _, _, _, _⟩) rfl (fun K hK => ?_) (AllReadyH.cons (o := ⟨some 7, _, _, _, _, _⟩) rfl (fun K hK => ?_) AllReadyH.nil)
  · go_simp
    refine (H0 _ lv).mono ?_
    rintro e Y ⟨rfl, hb⟩
    have lv := lv.trans (hb.mono lv.size)
    refine hK.out _ _ (hSof _ lv) (fun _ => ?_)
    clear hK K
    try simp only [Act.put, qb24a, qb24z, qb24s]
    obtain ⟨X, rfl⟩ : ∃ X, X = Y := ⟨_, rfl⟩
    refine wpAnyH_ready (rs := [4, 5]) (by kernel_rfl) (by simp) ?_
    refine AllReadyH.cons (o := ⟨some 15, _, _, _, _, _⟩) rfl (fun K hK => ?_) (AllReadyH.cons (o := ⟨some 7, _, _, _, _, _⟩) rfl (fun K hK => ?_) AllReadyH.nil)
    · go_simp
      refine (H1 _ lv).mono ?_
      rintro e Y ⟨rfl, hb⟩
      have lv := lv.trans (hb.mono lv.size)
      refine hK.out _ _ (hSof _ lv) (fun _ => ?_)
      clear hK K
      try simp only [Act.put, qb24a, qb24z, qb24s]
      obtain ⟨X, rfl⟩ : ∃ X, X = Y := ⟨_, rfl⟩
      refine wpAnyH_ready (rs := [5]) (by kernel_rfl) (by simp) ?_
      refine AllReadyH.cons (o := ⟨some 7, _, _, _, _, _⟩) rfl (fun K hK => ?_) AllReadyH.nil
      go_simp
      have bn := belowNew X (.cells #[.string ⟨#[]⟩, .string ⟨#[]⟩] 61)
      have ro := RC.new X 61 (.string ⟨#[]⟩) (.string ⟨#[]⟩)
      have hTo := lv.size
      have lv := lv.trans (bn.mono lv.size)
      refine hK.out _ _ (hSof _ lv) (fun _ => ?_)
      clear hK K bn
      try simp only [Act.put, qb24a, qb24z, qb24s]
      obtain ⟨To, hToe⟩ : ∃ To, To = X.heap.size := ⟨_, rfl⟩
      rw [← hToe] at ro hTo ⊢
      clear hToe
      generalize X.alloc (.cells #[.string ⟨#[]⟩, .string ⟨#[]⟩] 61) = X at *
      refine wpAnyH_ready (rs := [6]) (by kernel_rfl) (by simp) ?_
      refine AllReadyH.cons (o := ⟨none, .store _ (.tmp 7) (.tmp 15), _, _, _, _⟩) rfl (fun K hK => ?_) AllReadyH.nil
      have c0 := ro.c00
      have c1 := ro.c01
      have f0 := ro.f0
      go_simp
      have lv := Below.put2 lv hTo (.string q1) (.string q2)
      have ro := ro.put (.string q1) (.string q2)
      refine hK.out _ _ (hSof _ lv) (fun _ => ?_)
      clear hK K
      try simp only [Act.put, qb24a, qb24z, qb24s]
      refine wpAnyH_done (by kernel_rfl) ?_ _
      exact HQ.out _ _ ro hTo lv
    · go_simp
      have bn := belowNew X (.cells #[.string ⟨#[]⟩, .string ⟨#[]⟩] 61)
      have ro := RC.new X 61 (.string ⟨#[]⟩) (.string ⟨#[]⟩)
      have hTo := lv.size
      have lv := lv.trans (bn.mono lv.size)
      refine hK.out _ _ (hSof _ lv) (fun _ => ?_)
      clear hK K bn
      try simp only [Act.put, qb24a, qb24z, qb24s]
      obtain ⟨To, hToe⟩ : ∃ To, To = X.heap.size := ⟨_, rfl⟩
      rw [← hToe] at ro hTo ⊢
      clear hToe
      generalize X.alloc (.cells #[.string ⟨#[]⟩, .string ⟨#[]⟩] 61) = X at *
      refine wpAnyH_ready (rs := [4]) (by kernel_rfl) (by simp) ?_
      refine AllReadyH.cons (o := ⟨some 15, _, _, _, _, _⟩) rfl (fun K hK => ?_) AllReadyH.nil
      go_simp
      refine (H1 _ lv).mono ?_
      rintro e Y ⟨rfl, hb⟩
      have lv := lv.trans (hb.mono lv.size)
      have ro := ro.below hb
      refine hK.out _ _ (hSof _ lv) (fun _ => ?_)
      clear hK K
      try simp only [Act.put, qb24a, qb24z, qb24s]
      obtain ⟨X, rfl⟩ : ∃ X, X = Y := ⟨_, rfl⟩
      refine wpAnyH_ready (rs := [6]) (by kernel_rfl) (by simp) ?_
      refine AllReadyH.cons (o := ⟨none, .store _ (.tmp 7) (.tmp 15), _, _, _, _⟩) rfl (fun K hK => ?_) AllReadyH.nil
      have c0 := ro.c00
      have c1 := ro.c01
      have f0 := ro.f0
      go_simp
      have lv := Below.put2 lv hTo (.string q1) (.string q2)
      have ro := ro.put (.string q1) (.string q2)
      refine hK.out _ _ (hSof _ lv) (fun _ => ?_)
      clear hK K
      try simp only [Act.put, qb24a, qb24z, qb24s]
      refine wpAnyH_done (by kernel_rfl) ?_ _
      exact HQ.out _ _ ro hTo lv
  · go_simp
    have bn := belowNew X (.cells #[.string ⟨#[]⟩, .string ⟨#[]⟩] 61)
    have ro := RC.new X 61 (.string ⟨#[]⟩) (.string ⟨#[]⟩)
    have hTo := lv.size
    have lv := lv.trans (bn.mono lv.size)
    refine hK.out _ _ (hSof _ lv) (fun _ => ?_)
    clear hK K bn
    try simp only [Act.put, qb24a, qb24z, qb24s]
    obtain ⟨To, hToe⟩ : ∃ To, To = X.heap.size := ⟨_, rfl⟩
    rw [← hToe] at ro hTo ⊢
    clear hToe
    generalize X.alloc (.cells #[.string ⟨#[]⟩, .string ⟨#[]⟩] 61) = X at *
    refine wpAnyH_ready (rs := [3]) (by kernel_rfl) (by simp) ?_
    refine AllReadyH.cons (o := ⟨some 14, _, _, _, _, _⟩) rfl (fun K hK => ?_) AllReadyH.nil
    go_simp
    refine (H0 _ lv).mono ?_
    rintro e Y ⟨rfl, hb⟩
    have lv := lv.trans (hb.mono lv.size)
    have ro := ro.below hb
    refine hK.out _ _ (hSof _ lv) (fun _ => ?_)
    clear hK K
    try simp only [Act.put, qb24a, qb24z, qb24s]
    obtain ⟨X, rfl⟩ : ∃ X, X = Y := ⟨_, rfl⟩
    refine wpAnyH_ready (rs := [4]) (by kernel_rfl) (by simp) ?_
    refine AllReadyH.cons (o := ⟨some 15, _, _, _, _, _⟩) rfl (fun K hK => ?_) AllReadyH.nil
    go_simp
    refine (H1 _ lv).mono ?_
    rintro e Y ⟨rfl, hb⟩
    have lv := lv.trans (hb.mono lv.size)
    have ro := ro.below hb
    refine hK.out _ _ (hSof _ lv) (fun _ => ?_)
    clear hK K
    try simp only [Act.put, qb24a, qb24z, qb24s]
    obtain ⟨X, rfl⟩ : ∃ X, X = Y := ⟨_, rfl⟩
    refine wpAnyH_ready (rs := [6]) (by kernel_rfl) (by simp) ?_
    refine AllReadyH.cons (o := ⟨none, .store _ (.tmp 7) (.tmp 15), _, _, _, _⟩) rfl (fun K hK => ?_) AllReadyH.nil
    have c0 := ro.c00
    have c1 := ro.c01
    have f0 := ro.f0
    go_simp
    have lv := Below.put2 lv hTo (.string q1) (.string q2)
    have ro := ro.put (.string q1) (.string q2)
    refine hK.out _ _ (hSof _ lv) (fun _ => ?_)
    clear hK K
    try simp only [Act.put, qb24a, qb24z, qb24s]
    refine wpAnyH_done (by kernel_rfl) ?_ _
    exact HQ.out _ _ ro hTo lv


noncomputable def findRegionC : Code → Nat → Option (Array Oper)
  | .region id ops _, n => if id == n then some ops else none
  | .seq a b, n => match findRegionC a n with | some o => some o | none => findRegionC b n
  | .cond _ a b, n => match findRegionC a n with | some o => some o | none => findRegionC b n
  | _, _ => none


noncomputable def tailReg5Ops : Array Oper := ((Tryz.f72.body.bind (findRegionC · 5)).getD #[])
set_option maxRecDepth 100000 in
set_option maxHeartbeats 8000000 in
theorem tailReg5 (k : Int) (one y1 y2 a1 a2 b1 b2 r1 r2 c1 c2 p1 p2 q1 q2 e1 e2 : ByteArray) (bs bx T8 T9 : Nat) {u0 u1 u2 u4 u5 u6 u10 u11 u12 u13 u14 u15 u16 u17 u18 u19 u20 u21 u22 u23 u24 u25 u26 u27 u28 u29 u30 u31 u32 u33 u34 u35 u36 u37 u38 u39 u40 u41 u42 u43 u44 u45 u46 u47 u48 u49 u50 u51 u52 u53 u54 u55 u56 u57 u58 u59 u60 u61 u62 u63 : Value} (V : World) (Q : Exit → Act → World → Prop)
    (hs : RC bs V (.int .i64 k) (.string one)) (hx : RC bx V (.string y1) (.string y2)) (ha : RC T8 V (.string a1) (.string a2)) (hb : RC T9 V (.string b1) (.string b2))
    (n1 : T8 ≠ bs) (n2 : T8 ≠ bx) (n3 : T9 ≠ bs) (n4 : T9 ≠ bx) (n5 : T8 ≠ T9)
    (H4 : GivesC 117 #[.agg #[.int .i64 k, .string one], .agg #[.string y1, .string y2]] (.agg #[.string r1, .string r2]) V) (H5 : GivesC 88 #[.agg #[.int .i64 k, .string one], .agg #[.string a1, .string a2], .agg #[.string r1, .string r2]] (.agg #[.string c1, .string c2]) V) (H10 : GivesC 118 #[.agg #[.int .i64 k, .string one]] (.agg #[.string p1, .string p2]) V) (H11 : GivesC 117 #[.agg #[.int .i64 k, .string one], .agg #[.string p1, .string p2]] (.agg #[.string q1, .string q2]) V) (H12 : GivesC 88 #[.agg #[.int .i64 k, .string one], .agg #[.string b1, .string b2], .agg #[.string q1, .string q2]] (.agg #[.string e1, .string e2]) V)
    (hP : ∀ (c : List PanicEntry) (a : Act) (d : Option Tmp) (v : Value) (W : World), Q (.panic c) (a.put d v) W → Q (.panic c) a W)
    (hQ : ∀ (F : World), Below V.heap.size V F → Q .normal { tmps := #[u0, u1, u2, .pointer (some ⟨bs, 0, none⟩), u4, u5, u6, .pointer (some ⟨bx, 0, none⟩), .pointer (some ⟨T8, 0, none⟩), .pointer (some ⟨T9, 0, none⟩), u10, u11, u12, u13, u14, u15, u16, u17, u18, u19, u20, u21, u22, u23, u24, u25, u26, u27, .agg #[.int .i64 k, .string one], .agg #[.string a1, .string a2], .agg #[.int .i64 k, .string one], .agg #[.string y1, .string y2], .agg #[.string r1, .string r2], .agg #[.string c1, .string c2], .agg #[.int .i64 k, .string one], .agg #[.string b1, .string b2], .agg #[.int .i64 k, .string one], .agg #[.int .i64 k, .string one], .agg #[.string p1, .string p2], .agg #[.string q1, .string q2], .agg #[.string e1, .string e2], u41, u42, u43, u44, u45, u46, u47, u48, u49, u50, u51, u52, u53, u54, u55, u56, u57, u58, u59, u60, u61, u62, u63], defers := [] } ((((F.setCell ⟨T8, 0, none⟩ (.string c1)).setCell ⟨T8, 1, none⟩ (.string c2)).setCell ⟨T9, 0, none⟩ (.string e1)).setCell ⟨T9, 1, none⟩ (.string e2))) :
    (Code.region 5 tailReg5Ops true).wp Tryz.prog Q { tmps := #[u0, u1, u2, .pointer (some ⟨bs, 0, none⟩), u4, u5, u6, .pointer (some ⟨bx, 0, none⟩), .pointer (some ⟨T8, 0, none⟩), .pointer (some ⟨T9, 0, none⟩), u10, u11, u12, u13, u14, u15, u16, u17, u18, u19, u20, u21, u22, u23, u24, u25, u26, u27, u28, u29, u30, u31, u32, u33, u34, u35, u36, u37, u38, u39, u40, u41, u42, u43, u44, u45, u46, u47, u48, u49, u50, u51, u52, u53, u54, u55, u56, u57, u58, u59, u60, u61, u62, u63], defers := [] } V := by
  have hSof : ∀ W, Below V.heap.size V W → (W.cell? ⟨bs, 0, none⟩ = some (.int .i64 k) ∧ W.cell? ⟨bs, 1, none⟩ = some (.string one) ∧ W.cell? ⟨bx, 0, none⟩ = some (.string y1) ∧ W.cell? ⟨bx, 1, none⟩ = some (.string y2)) := fun W hb => by
    have ks := hs.belowB hb (ltOf hs.c00)
    have kx := hx.belowB hb (ltOf hx.c00)
    exact ⟨ks.c00, ks.c01, kx.c00, kx.c01⟩
  have HQ := Lib.hid hQ
  clear hQ
  refine wp_region_held_drew (S := fun W => W.cell? ⟨bs, 0, none⟩ = some (.int .i64 k) ∧ W.cell? ⟨bs, 1, none⟩ = some (.string one) ∧ W.cell? ⟨bx, 0, none⟩ = some (.string y1) ∧ W.cell? ⟨bx, 1, none⟩ = some (.string y2)) (by kernel_rfl) (hSof _ (Below.refl _ V).drew) (fun hHeld => ?_)
  have lv : Below V.heap.size V V.drew := (Below.refl _ V).drew
  have ka := ha.drew
  have kb := hb.drew
  generalize V.drew = X at *
  refine wpAnyH_take (i := 0) (oi := ⟨some 28, _, _, _, _, _⟩) (v := .agg #[.int .i64 k, .string one]) rfl (by kernel_rfl) (by kernel_rfl) (by kernel_rfl) (fun _ _ _ h => hP _ _ _ _ _ h) (Or.inl ⟨rfl, fun w' hSw => by (try dsimp only at hSw); go_simp; (try with_reducible rfl)⟩) (hSof _ lv) ?_
  try simp only [Act.put, qb24a, qb24z, qb24s]
  refine wpAnyH_take (i := 2) (oi := ⟨some 30, _, _, _, _, _⟩) (v := .agg #[.int .i64 k, .string one]) rfl (by kernel_rfl) (by kernel_rfl) (by kernel_rfl) (fun _ _ _ h => hP _ _ _ _ _ h) (Or.inl ⟨rfl, fun w' hSw => by (try dsimp only at hSw); go_simp; (try with_reducible rfl)⟩) (hSof _ lv) ?_
  try simp only [Act.put, qb24a, qb24z, qb24s]
  refine wpAnyH_take (i := 3) (oi := ⟨some 31, _, _, _, _, _⟩) (v := .agg #[.string y1, .string y2]) rfl (by kernel_rfl) (by kernel_rfl) (by kernel_rfl) (fun _ _ _ h => hP _ _ _ _ _ h) (Or.inl ⟨rfl, fun w' hSw => by (try dsimp only at hSw); go_simp; (try with_reducible rfl)⟩) (hSof _ lv) ?_
  try simp only [Act.put, qb24a, qb24z, qb24s]
  refine wpAnyH_take (i := 6) (oi := ⟨some 34, _, _, _, _, _⟩) (v := .agg #[.int .i64 k, .string one]) rfl (by kernel_rfl) (by kernel_rfl) (by kernel_rfl) (fun _ _ _ h => hP _ _ _ _ _ h) (Or.inl ⟨rfl, fun w' hSw => by (try dsimp only at hSw); go_simp; (try with_reducible rfl)⟩) (hSof _ lv) ?_
  try simp only [Act.put, qb24a, qb24z, qb24s]
  refine wpAnyH_take (i := 8) (oi := ⟨some 36, _, _, _, _, _⟩) (v := .agg #[.int .i64 k, .string one]) rfl (by kernel_rfl) (by kernel_rfl) (by kernel_rfl) (fun _ _ _ h => hP _ _ _ _ _ h) (Or.inl ⟨rfl, fun w' hSw => by (try dsimp only at hSw); go_simp; (try with_reducible rfl)⟩) (hSof _ lv) ?_
  try simp only [Act.put, qb24a, qb24z, qb24s]
  refine wpAnyH_take (i := 9) (oi := ⟨some 37, _, _, _, _, _⟩) (v := .agg #[.int .i64 k, .string one]) rfl (by kernel_rfl) (by kernel_rfl) (by kernel_rfl) (fun _ _ _ h => hP _ _ _ _ _ h) (Or.inl ⟨rfl, fun w' hSw => by (try dsimp only at hSw); go_simp; (try with_reducible rfl)⟩) (hSof _ lv) ?_
  try simp only [Act.put, qb24a, qb24z, qb24s]
  refine wpAnyH_ready (rs := [1, 4, 7]) (by kernel_rfl) (by simp) ?_
  refine AllReadyH.cons (o := ⟨some 29, _, _, _, _, _⟩) rfl (fun K hK => ?_) (AllReadyH.cons (o := ⟨some 32, _, _, _, _, _⟩) rfl (fun K hK => ?_) (AllReadyH.cons (o := ⟨some 35, _, _, _, _, _⟩) rfl (fun K hK => ?_) AllReadyH.nil))
  · have x0 := ka.c00
    have x1 := ka.c01
    go_simp
    refine hK.out _ _ (hSof _ lv) (fun _ => ?_)
    clear hK K
    try simp only [Act.put, qb24a, qb24z, qb24s]
    refine wpAnyH_ready (rs := [4, 7]) (by kernel_rfl) (by simp) ?_
    refine AllReadyH.cons (o := ⟨some 32, _, _, _, _, _⟩) rfl (fun K hK => ?_) (AllReadyH.cons (o := ⟨some 35, _, _, _, _, _⟩) rfl (fun K hK => ?_) AllReadyH.nil)
    · go_simp
      refine (H4 _ lv).mono ?_
      rintro e Y ⟨rfl, hb'⟩
      have lv := lv.trans (hb'.mono lv.size)
      have ka := ka.below hb'
      have kb := kb.below hb'
      refine hK.out _ _ (hSof _ lv) (fun _ => ?_)
      clear hK K
      try simp only [Act.put, qb24a, qb24z, qb24s]
      obtain ⟨X, rfl⟩ : ∃ X, X = Y := ⟨_, rfl⟩
      refine wpAnyH_ready (rs := [5, 7]) (by kernel_rfl) (by simp) ?_
      refine AllReadyH.cons (o := ⟨some 33, _, _, _, _, _⟩) rfl (fun K hK => ?_) (AllReadyH.cons (o := ⟨some 35, _, _, _, _, _⟩) rfl (fun K hK => ?_) AllReadyH.nil)
      · go_simp
        refine (H5 _ lv).mono ?_
        rintro e Y ⟨rfl, hb'⟩
        have lv := lv.trans (hb'.mono lv.size)
        have ka := ka.below hb'
        have kb := kb.below hb'
        refine hK.out _ _ (hSof _ lv) (fun _ => ?_)
        clear hK K
        try simp only [Act.put, qb24a, qb24z, qb24s]
        obtain ⟨X, rfl⟩ : ∃ X, X = Y := ⟨_, rfl⟩
        refine wpAnyH_ready (rs := [7, 10]) (by kernel_rfl) (by simp) ?_
        refine AllReadyH.cons (o := ⟨some 35, _, _, _, _, _⟩) rfl (fun K hK => ?_) (AllReadyH.cons (o := ⟨some 38, _, _, _, _, _⟩) rfl (fun K hK => ?_) AllReadyH.nil)
        · have x0 := kb.c00
          have x1 := kb.c01
          go_simp
          refine hK.out _ _ (hSof _ lv) (fun _ => ?_)
          clear hK K
          try simp only [Act.put, qb24a, qb24z, qb24s]
          refine wpAnyH_ready (rs := [10]) (by kernel_rfl) (by simp) ?_
          refine AllReadyH.cons (o := ⟨some 38, _, _, _, _, _⟩) rfl (fun K hK => ?_) AllReadyH.nil
          go_simp
          refine (H10 _ lv).mono ?_
          rintro e Y ⟨rfl, hb'⟩
          have lv := lv.trans (hb'.mono lv.size)
          have ka := ka.below hb'
          have kb := kb.below hb'
          refine hK.out _ _ (hSof _ lv) (fun _ => ?_)
          clear hK K
          try simp only [Act.put, qb24a, qb24z, qb24s]
          obtain ⟨X, rfl⟩ : ∃ X, X = Y := ⟨_, rfl⟩
          refine wpAnyH_ready (rs := [11]) (by kernel_rfl) (by simp) ?_
          refine AllReadyH.cons (o := ⟨some 39, _, _, _, _, _⟩) rfl (fun K hK => ?_) AllReadyH.nil
          go_simp
          refine (H11 _ lv).mono ?_
          rintro e Y ⟨rfl, hb'⟩
          have lv := lv.trans (hb'.mono lv.size)
          have ka := ka.below hb'
          have kb := kb.below hb'
          refine hK.out _ _ (hSof _ lv) (fun _ => ?_)
          clear hK K
          try simp only [Act.put, qb24a, qb24z, qb24s]
          obtain ⟨X, rfl⟩ : ∃ X, X = Y := ⟨_, rfl⟩
          refine wpAnyH_ready (rs := [12]) (by kernel_rfl) (by simp) ?_
          refine AllReadyH.cons (o := ⟨some 40, _, _, _, _, _⟩) rfl (fun K hK => ?_) AllReadyH.nil
          go_simp
          refine (H12 _ lv).mono ?_
          rintro e Y ⟨rfl, hb'⟩
          have lv := lv.trans (hb'.mono lv.size)
          have ka := ka.below hb'
          have kb := kb.below hb'
          refine hK.out _ _ (hSof _ lv) (fun _ => ?_)
          clear hK K
          try simp only [Act.put, qb24a, qb24z, qb24s]
          obtain ⟨X, rfl⟩ : ∃ X, X = Y := ⟨_, rfl⟩
          have x0 := ka.c00
          have x1 := ka.c01
          have x2 := ka.f0
          refine wpAnyH_ready (rs := [13]) (by kernel_rfl) (by simp) ?_
          refine AllReadyH.cons (o := ⟨none, .store _ (.tmp 8) (.tmp 33), _, _, _, _⟩) rfl (fun K hK => ?_) AllReadyH.nil
          go_simp
          have hS := hSof _ lv
          refine hK.out _ _ ⟨cell_put2 hS.1 n1 _ _, cell_put2 hS.2.1 n1 _ _, cell_put2 hS.2.2.1 n2 _ _, cell_put2 hS.2.2.2 n2 _ _⟩ (fun _ => ?_)
          clear hK K
          try simp only [Act.put, qb24a, qb24z, qb24s]
          have kb := kb.otherPut n5 (.string c1) (.string c2)
          have x3 := kb.c00
          have x4 := kb.c01
          have x5 := kb.f0
          refine wpAnyH_ready (rs := [14]) (by kernel_rfl) (by simp) ?_
          refine AllReadyH.cons (o := ⟨none, .store _ (.tmp 9) (.tmp 40), _, _, _, _⟩) rfl (fun K hK => ?_) AllReadyH.nil
          go_simp
          refine hK.out _ _ ⟨cell_put2 (cell_put2 hS.1 n1 _ _) n3 _ _, cell_put2 (cell_put2 hS.2.1 n1 _ _) n3 _ _, cell_put2 (cell_put2 hS.2.2.1 n2 _ _) n4 _ _, cell_put2 (cell_put2 hS.2.2.2 n2 _ _) n4 _ _⟩ (fun _ => ?_)
          clear hK K
          refine wpAnyH_done (by kernel_rfl) ?_ _
          exact HQ.out _ lv
        · go_simp
          refine (H10 _ lv).mono ?_
          rintro e Y ⟨rfl, hb'⟩
          have lv := lv.trans (hb'.mono lv.size)
          have ka := ka.below hb'
          have kb := kb.below hb'
          refine hK.out _ _ (hSof _ lv) (fun _ => ?_)
          clear hK K
          try simp only [Act.put, qb24a, qb24z, qb24s]
          obtain ⟨X, rfl⟩ : ∃ X, X = Y := ⟨_, rfl⟩
          refine wpAnyH_ready (rs := [7, 11]) (by kernel_rfl) (by simp) ?_
          refine AllReadyH.cons (o := ⟨some 35, _, _, _, _, _⟩) rfl (fun K hK => ?_) (AllReadyH.cons (o := ⟨some 39, _, _, _, _, _⟩) rfl (fun K hK => ?_) AllReadyH.nil)
          · have x0 := kb.c00
            have x1 := kb.c01
            go_simp
            refine hK.out _ _ (hSof _ lv) (fun _ => ?_)
            clear hK K
            try simp only [Act.put, qb24a, qb24z, qb24s]
            refine wpAnyH_ready (rs := [11]) (by kernel_rfl) (by simp) ?_
            refine AllReadyH.cons (o := ⟨some 39, _, _, _, _, _⟩) rfl (fun K hK => ?_) AllReadyH.nil
            go_simp
            refine (H11 _ lv).mono ?_
            rintro e Y ⟨rfl, hb'⟩
            have lv := lv.trans (hb'.mono lv.size)
            have ka := ka.below hb'
            have kb := kb.below hb'
            refine hK.out _ _ (hSof _ lv) (fun _ => ?_)
            clear hK K
            try simp only [Act.put, qb24a, qb24z, qb24s]
            obtain ⟨X, rfl⟩ : ∃ X, X = Y := ⟨_, rfl⟩
            refine wpAnyH_ready (rs := [12]) (by kernel_rfl) (by simp) ?_
            refine AllReadyH.cons (o := ⟨some 40, _, _, _, _, _⟩) rfl (fun K hK => ?_) AllReadyH.nil
            go_simp
            refine (H12 _ lv).mono ?_
            rintro e Y ⟨rfl, hb'⟩
            have lv := lv.trans (hb'.mono lv.size)
            have ka := ka.below hb'
            have kb := kb.below hb'
            refine hK.out _ _ (hSof _ lv) (fun _ => ?_)
            clear hK K
            try simp only [Act.put, qb24a, qb24z, qb24s]
            obtain ⟨X, rfl⟩ : ∃ X, X = Y := ⟨_, rfl⟩
            have x0 := ka.c00
            have x1 := ka.c01
            have x2 := ka.f0
            refine wpAnyH_ready (rs := [13]) (by kernel_rfl) (by simp) ?_
            refine AllReadyH.cons (o := ⟨none, .store _ (.tmp 8) (.tmp 33), _, _, _, _⟩) rfl (fun K hK => ?_) AllReadyH.nil
            go_simp
            have hS := hSof _ lv
            refine hK.out _ _ ⟨cell_put2 hS.1 n1 _ _, cell_put2 hS.2.1 n1 _ _, cell_put2 hS.2.2.1 n2 _ _, cell_put2 hS.2.2.2 n2 _ _⟩ (fun _ => ?_)
            clear hK K
            try simp only [Act.put, qb24a, qb24z, qb24s]
            have kb := kb.otherPut n5 (.string c1) (.string c2)
            have x3 := kb.c00
            have x4 := kb.c01
            have x5 := kb.f0
            refine wpAnyH_ready (rs := [14]) (by kernel_rfl) (by simp) ?_
            refine AllReadyH.cons (o := ⟨none, .store _ (.tmp 9) (.tmp 40), _, _, _, _⟩) rfl (fun K hK => ?_) AllReadyH.nil
            go_simp
            refine hK.out _ _ ⟨cell_put2 (cell_put2 hS.1 n1 _ _) n3 _ _, cell_put2 (cell_put2 hS.2.1 n1 _ _) n3 _ _, cell_put2 (cell_put2 hS.2.2.1 n2 _ _) n4 _ _, cell_put2 (cell_put2 hS.2.2.2 n2 _ _) n4 _ _⟩ (fun _ => ?_)
            clear hK K
            refine wpAnyH_done (by kernel_rfl) ?_ _
            exact HQ.out _ lv
          · go_simp
            refine (H11 _ lv).mono ?_
            rintro e Y ⟨rfl, hb'⟩
            have lv := lv.trans (hb'.mono lv.size)
            have ka := ka.below hb'
            have kb := kb.below hb'
            refine hK.out _ _ (hSof _ lv) (fun _ => ?_)
            clear hK K
            try simp only [Act.put, qb24a, qb24z, qb24s]
            obtain ⟨X, rfl⟩ : ∃ X, X = Y := ⟨_, rfl⟩
            refine wpAnyH_ready (rs := [7]) (by kernel_rfl) (by simp) ?_
            refine AllReadyH.cons (o := ⟨some 35, _, _, _, _, _⟩) rfl (fun K hK => ?_) AllReadyH.nil
            have x0 := kb.c00
            have x1 := kb.c01
            go_simp
            refine hK.out _ _ (hSof _ lv) (fun _ => ?_)
            clear hK K
            try simp only [Act.put, qb24a, qb24z, qb24s]
            refine wpAnyH_ready (rs := [12]) (by kernel_rfl) (by simp) ?_
            refine AllReadyH.cons (o := ⟨some 40, _, _, _, _, _⟩) rfl (fun K hK => ?_) AllReadyH.nil
            go_simp
            refine (H12 _ lv).mono ?_
            rintro e Y ⟨rfl, hb'⟩
            have lv := lv.trans (hb'.mono lv.size)
            have ka := ka.below hb'
            have kb := kb.below hb'
            refine hK.out _ _ (hSof _ lv) (fun _ => ?_)
            clear hK K
            try simp only [Act.put, qb24a, qb24z, qb24s]
            obtain ⟨X, rfl⟩ : ∃ X, X = Y := ⟨_, rfl⟩
            have x0 := ka.c00
            have x1 := ka.c01
            have x2 := ka.f0
            refine wpAnyH_ready (rs := [13]) (by kernel_rfl) (by simp) ?_
            refine AllReadyH.cons (o := ⟨none, .store _ (.tmp 8) (.tmp 33), _, _, _, _⟩) rfl (fun K hK => ?_) AllReadyH.nil
            go_simp
            have hS := hSof _ lv
            refine hK.out _ _ ⟨cell_put2 hS.1 n1 _ _, cell_put2 hS.2.1 n1 _ _, cell_put2 hS.2.2.1 n2 _ _, cell_put2 hS.2.2.2 n2 _ _⟩ (fun _ => ?_)
            clear hK K
            try simp only [Act.put, qb24a, qb24z, qb24s]
            have kb := kb.otherPut n5 (.string c1) (.string c2)
            have x3 := kb.c00
            have x4 := kb.c01
            have x5 := kb.f0
            refine wpAnyH_ready (rs := [14]) (by kernel_rfl) (by simp) ?_
            refine AllReadyH.cons (o := ⟨none, .store _ (.tmp 9) (.tmp 40), _, _, _, _⟩) rfl (fun K hK => ?_) AllReadyH.nil
            go_simp
            refine hK.out _ _ ⟨cell_put2 (cell_put2 hS.1 n1 _ _) n3 _ _, cell_put2 (cell_put2 hS.2.1 n1 _ _) n3 _ _, cell_put2 (cell_put2 hS.2.2.1 n2 _ _) n4 _ _, cell_put2 (cell_put2 hS.2.2.2 n2 _ _) n4 _ _⟩ (fun _ => ?_)
            clear hK K
            refine wpAnyH_done (by kernel_rfl) ?_ _
            exact HQ.out _ lv
      · have x0 := kb.c00
        have x1 := kb.c01
        go_simp
        refine hK.out _ _ (hSof _ lv) (fun _ => ?_)
        clear hK K
        try simp only [Act.put, qb24a, qb24z, qb24s]
        refine wpAnyH_ready (rs := [5]) (by kernel_rfl) (by simp) ?_
        refine AllReadyH.cons (o := ⟨some 33, _, _, _, _, _⟩) rfl (fun K hK => ?_) AllReadyH.nil
        go_simp
        refine (H5 _ lv).mono ?_
        rintro e Y ⟨rfl, hb'⟩
        have lv := lv.trans (hb'.mono lv.size)
        have ka := ka.below hb'
        have kb := kb.below hb'
        refine hK.out _ _ (hSof _ lv) (fun _ => ?_)
        clear hK K
        try simp only [Act.put, qb24a, qb24z, qb24s]
        obtain ⟨X, rfl⟩ : ∃ X, X = Y := ⟨_, rfl⟩
        refine wpAnyH_ready (rs := [10]) (by kernel_rfl) (by simp) ?_
        refine AllReadyH.cons (o := ⟨some 38, _, _, _, _, _⟩) rfl (fun K hK => ?_) AllReadyH.nil
        go_simp
        refine (H10 _ lv).mono ?_
        rintro e Y ⟨rfl, hb'⟩
        have lv := lv.trans (hb'.mono lv.size)
        have ka := ka.below hb'
        have kb := kb.below hb'
        refine hK.out _ _ (hSof _ lv) (fun _ => ?_)
        clear hK K
        try simp only [Act.put, qb24a, qb24z, qb24s]
        obtain ⟨X, rfl⟩ : ∃ X, X = Y := ⟨_, rfl⟩
        refine wpAnyH_ready (rs := [11]) (by kernel_rfl) (by simp) ?_
        refine AllReadyH.cons (o := ⟨some 39, _, _, _, _, _⟩) rfl (fun K hK => ?_) AllReadyH.nil
        go_simp
        refine (H11 _ lv).mono ?_
        rintro e Y ⟨rfl, hb'⟩
        have lv := lv.trans (hb'.mono lv.size)
        have ka := ka.below hb'
        have kb := kb.below hb'
        refine hK.out _ _ (hSof _ lv) (fun _ => ?_)
        clear hK K
        try simp only [Act.put, qb24a, qb24z, qb24s]
        obtain ⟨X, rfl⟩ : ∃ X, X = Y := ⟨_, rfl⟩
        refine wpAnyH_ready (rs := [12]) (by kernel_rfl) (by simp) ?_
        refine AllReadyH.cons (o := ⟨some 40, _, _, _, _, _⟩) rfl (fun K hK => ?_) AllReadyH.nil
        go_simp
        refine (H12 _ lv).mono ?_
        rintro e Y ⟨rfl, hb'⟩
        have lv := lv.trans (hb'.mono lv.size)
        have ka := ka.below hb'
        have kb := kb.below hb'
        refine hK.out _ _ (hSof _ lv) (fun _ => ?_)
        clear hK K
        try simp only [Act.put, qb24a, qb24z, qb24s]
        obtain ⟨X, rfl⟩ : ∃ X, X = Y := ⟨_, rfl⟩
        have x0 := ka.c00
        have x1 := ka.c01
        have x2 := ka.f0
        refine wpAnyH_ready (rs := [13]) (by kernel_rfl) (by simp) ?_
        refine AllReadyH.cons (o := ⟨none, .store _ (.tmp 8) (.tmp 33), _, _, _, _⟩) rfl (fun K hK => ?_) AllReadyH.nil
        go_simp
        have hS := hSof _ lv
        refine hK.out _ _ ⟨cell_put2 hS.1 n1 _ _, cell_put2 hS.2.1 n1 _ _, cell_put2 hS.2.2.1 n2 _ _, cell_put2 hS.2.2.2 n2 _ _⟩ (fun _ => ?_)
        clear hK K
        try simp only [Act.put, qb24a, qb24z, qb24s]
        have kb := kb.otherPut n5 (.string c1) (.string c2)
        have x3 := kb.c00
        have x4 := kb.c01
        have x5 := kb.f0
        refine wpAnyH_ready (rs := [14]) (by kernel_rfl) (by simp) ?_
        refine AllReadyH.cons (o := ⟨none, .store _ (.tmp 9) (.tmp 40), _, _, _, _⟩) rfl (fun K hK => ?_) AllReadyH.nil
        go_simp
        refine hK.out _ _ ⟨cell_put2 (cell_put2 hS.1 n1 _ _) n3 _ _, cell_put2 (cell_put2 hS.2.1 n1 _ _) n3 _ _, cell_put2 (cell_put2 hS.2.2.1 n2 _ _) n4 _ _, cell_put2 (cell_put2 hS.2.2.2 n2 _ _) n4 _ _⟩ (fun _ => ?_)
        clear hK K
        refine wpAnyH_done (by kernel_rfl) ?_ _
        exact HQ.out _ lv
    · have x0 := kb.c00
      have x1 := kb.c01
      go_simp
      refine hK.out _ _ (hSof _ lv) (fun _ => ?_)
      clear hK K
      try simp only [Act.put, qb24a, qb24z, qb24s]
      refine wpAnyH_ready (rs := [4]) (by kernel_rfl) (by simp) ?_
      refine AllReadyH.cons (o := ⟨some 32, _, _, _, _, _⟩) rfl (fun K hK => ?_) AllReadyH.nil
      go_simp
      refine (H4 _ lv).mono ?_
      rintro e Y ⟨rfl, hb'⟩
      have lv := lv.trans (hb'.mono lv.size)
      have ka := ka.below hb'
      have kb := kb.below hb'
      refine hK.out _ _ (hSof _ lv) (fun _ => ?_)
      clear hK K
      try simp only [Act.put, qb24a, qb24z, qb24s]
      obtain ⟨X, rfl⟩ : ∃ X, X = Y := ⟨_, rfl⟩
      refine wpAnyH_ready (rs := [5]) (by kernel_rfl) (by simp) ?_
      refine AllReadyH.cons (o := ⟨some 33, _, _, _, _, _⟩) rfl (fun K hK => ?_) AllReadyH.nil
      go_simp
      refine (H5 _ lv).mono ?_
      rintro e Y ⟨rfl, hb'⟩
      have lv := lv.trans (hb'.mono lv.size)
      have ka := ka.below hb'
      have kb := kb.below hb'
      refine hK.out _ _ (hSof _ lv) (fun _ => ?_)
      clear hK K
      try simp only [Act.put, qb24a, qb24z, qb24s]
      obtain ⟨X, rfl⟩ : ∃ X, X = Y := ⟨_, rfl⟩
      refine wpAnyH_ready (rs := [10]) (by kernel_rfl) (by simp) ?_
      refine AllReadyH.cons (o := ⟨some 38, _, _, _, _, _⟩) rfl (fun K hK => ?_) AllReadyH.nil
      go_simp
      refine (H10 _ lv).mono ?_
      rintro e Y ⟨rfl, hb'⟩
      have lv := lv.trans (hb'.mono lv.size)
      have ka := ka.below hb'
      have kb := kb.below hb'
      refine hK.out _ _ (hSof _ lv) (fun _ => ?_)
      clear hK K
      try simp only [Act.put, qb24a, qb24z, qb24s]
      obtain ⟨X, rfl⟩ : ∃ X, X = Y := ⟨_, rfl⟩
      refine wpAnyH_ready (rs := [11]) (by kernel_rfl) (by simp) ?_
      refine AllReadyH.cons (o := ⟨some 39, _, _, _, _, _⟩) rfl (fun K hK => ?_) AllReadyH.nil
      go_simp
      refine (H11 _ lv).mono ?_
      rintro e Y ⟨rfl, hb'⟩
      have lv := lv.trans (hb'.mono lv.size)
      have ka := ka.below hb'
      have kb := kb.below hb'
      refine hK.out _ _ (hSof _ lv) (fun _ => ?_)
      clear hK K
      try simp only [Act.put, qb24a, qb24z, qb24s]
      obtain ⟨X, rfl⟩ : ∃ X, X = Y := ⟨_, rfl⟩
      refine wpAnyH_ready (rs := [12]) (by kernel_rfl) (by simp) ?_
      refine AllReadyH.cons (o := ⟨some 40, _, _, _, _, _⟩) rfl (fun K hK => ?_) AllReadyH.nil
      go_simp
      refine (H12 _ lv).mono ?_
      rintro e Y ⟨rfl, hb'⟩
      have lv := lv.trans (hb'.mono lv.size)
      have ka := ka.below hb'
      have kb := kb.below hb'
      refine hK.out _ _ (hSof _ lv) (fun _ => ?_)
      clear hK K
      try simp only [Act.put, qb24a, qb24z, qb24s]
      obtain ⟨X, rfl⟩ : ∃ X, X = Y := ⟨_, rfl⟩
      have x0 := ka.c00
      have x1 := ka.c01
      have x2 := ka.f0
      refine wpAnyH_ready (rs := [13]) (by kernel_rfl) (by simp) ?_
      refine AllReadyH.cons (o := ⟨none, .store _ (.tmp 8) (.tmp 33), _, _, _, _⟩) rfl (fun K hK => ?_) AllReadyH.nil
      go_simp
      have hS := hSof _ lv
      refine hK.out _ _ ⟨cell_put2 hS.1 n1 _ _, cell_put2 hS.2.1 n1 _ _, cell_put2 hS.2.2.1 n2 _ _, cell_put2 hS.2.2.2 n2 _ _⟩ (fun _ => ?_)
      clear hK K
      try simp only [Act.put, qb24a, qb24z, qb24s]
      have kb := kb.otherPut n5 (.string c1) (.string c2)
      have x3 := kb.c00
      have x4 := kb.c01
      have x5 := kb.f0
      refine wpAnyH_ready (rs := [14]) (by kernel_rfl) (by simp) ?_
      refine AllReadyH.cons (o := ⟨none, .store _ (.tmp 9) (.tmp 40), _, _, _, _⟩) rfl (fun K hK => ?_) AllReadyH.nil
      go_simp
      refine hK.out _ _ ⟨cell_put2 (cell_put2 hS.1 n1 _ _) n3 _ _, cell_put2 (cell_put2 hS.2.1 n1 _ _) n3 _ _, cell_put2 (cell_put2 hS.2.2.1 n2 _ _) n4 _ _, cell_put2 (cell_put2 hS.2.2.2 n2 _ _) n4 _ _⟩ (fun _ => ?_)
      clear hK K
      refine wpAnyH_done (by kernel_rfl) ?_ _
      exact HQ.out _ lv
  · go_simp
    refine (H4 _ lv).mono ?_
    rintro e Y ⟨rfl, hb'⟩
    have lv := lv.trans (hb'.mono lv.size)
    have ka := ka.below hb'
    have kb := kb.below hb'
    refine hK.out _ _ (hSof _ lv) (fun _ => ?_)
    clear hK K
    try simp only [Act.put, qb24a, qb24z, qb24s]
    obtain ⟨X, rfl⟩ : ∃ X, X = Y := ⟨_, rfl⟩
    refine wpAnyH_ready (rs := [1, 7]) (by kernel_rfl) (by simp) ?_
    refine AllReadyH.cons (o := ⟨some 29, _, _, _, _, _⟩) rfl (fun K hK => ?_) (AllReadyH.cons (o := ⟨some 35, _, _, _, _, _⟩) rfl (fun K hK => ?_) AllReadyH.nil)
    · have x0 := ka.c00
      have x1 := ka.c01
      go_simp
      refine hK.out _ _ (hSof _ lv) (fun _ => ?_)
      clear hK K
      try simp only [Act.put, qb24a, qb24z, qb24s]
      refine wpAnyH_ready (rs := [5, 7]) (by kernel_rfl) (by simp) ?_
      refine AllReadyH.cons (o := ⟨some 33, _, _, _, _, _⟩) rfl (fun K hK => ?_) (AllReadyH.cons (o := ⟨some 35, _, _, _, _, _⟩) rfl (fun K hK => ?_) AllReadyH.nil)
      · go_simp
        refine (H5 _ lv).mono ?_
        rintro e Y ⟨rfl, hb'⟩
        have lv := lv.trans (hb'.mono lv.size)
        have ka := ka.below hb'
        have kb := kb.below hb'
        refine hK.out _ _ (hSof _ lv) (fun _ => ?_)
        clear hK K
        try simp only [Act.put, qb24a, qb24z, qb24s]
        obtain ⟨X, rfl⟩ : ∃ X, X = Y := ⟨_, rfl⟩
        refine wpAnyH_ready (rs := [7, 10]) (by kernel_rfl) (by simp) ?_
        refine AllReadyH.cons (o := ⟨some 35, _, _, _, _, _⟩) rfl (fun K hK => ?_) (AllReadyH.cons (o := ⟨some 38, _, _, _, _, _⟩) rfl (fun K hK => ?_) AllReadyH.nil)
        · have x0 := kb.c00
          have x1 := kb.c01
          go_simp
          refine hK.out _ _ (hSof _ lv) (fun _ => ?_)
          clear hK K
          try simp only [Act.put, qb24a, qb24z, qb24s]
          refine wpAnyH_ready (rs := [10]) (by kernel_rfl) (by simp) ?_
          refine AllReadyH.cons (o := ⟨some 38, _, _, _, _, _⟩) rfl (fun K hK => ?_) AllReadyH.nil
          go_simp
          refine (H10 _ lv).mono ?_
          rintro e Y ⟨rfl, hb'⟩
          have lv := lv.trans (hb'.mono lv.size)
          have ka := ka.below hb'
          have kb := kb.below hb'
          refine hK.out _ _ (hSof _ lv) (fun _ => ?_)
          clear hK K
          try simp only [Act.put, qb24a, qb24z, qb24s]
          obtain ⟨X, rfl⟩ : ∃ X, X = Y := ⟨_, rfl⟩
          refine wpAnyH_ready (rs := [11]) (by kernel_rfl) (by simp) ?_
          refine AllReadyH.cons (o := ⟨some 39, _, _, _, _, _⟩) rfl (fun K hK => ?_) AllReadyH.nil
          go_simp
          refine (H11 _ lv).mono ?_
          rintro e Y ⟨rfl, hb'⟩
          have lv := lv.trans (hb'.mono lv.size)
          have ka := ka.below hb'
          have kb := kb.below hb'
          refine hK.out _ _ (hSof _ lv) (fun _ => ?_)
          clear hK K
          try simp only [Act.put, qb24a, qb24z, qb24s]
          obtain ⟨X, rfl⟩ : ∃ X, X = Y := ⟨_, rfl⟩
          refine wpAnyH_ready (rs := [12]) (by kernel_rfl) (by simp) ?_
          refine AllReadyH.cons (o := ⟨some 40, _, _, _, _, _⟩) rfl (fun K hK => ?_) AllReadyH.nil
          go_simp
          refine (H12 _ lv).mono ?_
          rintro e Y ⟨rfl, hb'⟩
          have lv := lv.trans (hb'.mono lv.size)
          have ka := ka.below hb'
          have kb := kb.below hb'
          refine hK.out _ _ (hSof _ lv) (fun _ => ?_)
          clear hK K
          try simp only [Act.put, qb24a, qb24z, qb24s]
          obtain ⟨X, rfl⟩ : ∃ X, X = Y := ⟨_, rfl⟩
          have x0 := ka.c00
          have x1 := ka.c01
          have x2 := ka.f0
          refine wpAnyH_ready (rs := [13]) (by kernel_rfl) (by simp) ?_
          refine AllReadyH.cons (o := ⟨none, .store _ (.tmp 8) (.tmp 33), _, _, _, _⟩) rfl (fun K hK => ?_) AllReadyH.nil
          go_simp
          have hS := hSof _ lv
          refine hK.out _ _ ⟨cell_put2 hS.1 n1 _ _, cell_put2 hS.2.1 n1 _ _, cell_put2 hS.2.2.1 n2 _ _, cell_put2 hS.2.2.2 n2 _ _⟩ (fun _ => ?_)
          clear hK K
          try simp only [Act.put, qb24a, qb24z, qb24s]
          have kb := kb.otherPut n5 (.string c1) (.string c2)
          have x3 := kb.c00
          have x4 := kb.c01
          have x5 := kb.f0
          refine wpAnyH_ready (rs := [14]) (by kernel_rfl) (by simp) ?_
          refine AllReadyH.cons (o := ⟨none, .store _ (.tmp 9) (.tmp 40), _, _, _, _⟩) rfl (fun K hK => ?_) AllReadyH.nil
          go_simp
          refine hK.out _ _ ⟨cell_put2 (cell_put2 hS.1 n1 _ _) n3 _ _, cell_put2 (cell_put2 hS.2.1 n1 _ _) n3 _ _, cell_put2 (cell_put2 hS.2.2.1 n2 _ _) n4 _ _, cell_put2 (cell_put2 hS.2.2.2 n2 _ _) n4 _ _⟩ (fun _ => ?_)
          clear hK K
          refine wpAnyH_done (by kernel_rfl) ?_ _
          exact HQ.out _ lv
        · go_simp
          refine (H10 _ lv).mono ?_
          rintro e Y ⟨rfl, hb'⟩
          have lv := lv.trans (hb'.mono lv.size)
          have ka := ka.below hb'
          have kb := kb.below hb'
          refine hK.out _ _ (hSof _ lv) (fun _ => ?_)
          clear hK K
          try simp only [Act.put, qb24a, qb24z, qb24s]
          obtain ⟨X, rfl⟩ : ∃ X, X = Y := ⟨_, rfl⟩
          refine wpAnyH_ready (rs := [7, 11]) (by kernel_rfl) (by simp) ?_
          refine AllReadyH.cons (o := ⟨some 35, _, _, _, _, _⟩) rfl (fun K hK => ?_) (AllReadyH.cons (o := ⟨some 39, _, _, _, _, _⟩) rfl (fun K hK => ?_) AllReadyH.nil)
          · have x0 := kb.c00
            have x1 := kb.c01
            go_simp
            refine hK.out _ _ (hSof _ lv) (fun _ => ?_)
            clear hK K
            try simp only [Act.put, qb24a, qb24z, qb24s]
            refine wpAnyH_ready (rs := [11]) (by kernel_rfl) (by simp) ?_
            refine AllReadyH.cons (o := ⟨some 39, _, _, _, _, _⟩) rfl (fun K hK => ?_) AllReadyH.nil
            go_simp
            refine (H11 _ lv).mono ?_
            rintro e Y ⟨rfl, hb'⟩
            have lv := lv.trans (hb'.mono lv.size)
            have ka := ka.below hb'
            have kb := kb.below hb'
            refine hK.out _ _ (hSof _ lv) (fun _ => ?_)
            clear hK K
            try simp only [Act.put, qb24a, qb24z, qb24s]
            obtain ⟨X, rfl⟩ : ∃ X, X = Y := ⟨_, rfl⟩
            refine wpAnyH_ready (rs := [12]) (by kernel_rfl) (by simp) ?_
            refine AllReadyH.cons (o := ⟨some 40, _, _, _, _, _⟩) rfl (fun K hK => ?_) AllReadyH.nil
            go_simp
            refine (H12 _ lv).mono ?_
            rintro e Y ⟨rfl, hb'⟩
            have lv := lv.trans (hb'.mono lv.size)
            have ka := ka.below hb'
            have kb := kb.below hb'
            refine hK.out _ _ (hSof _ lv) (fun _ => ?_)
            clear hK K
            try simp only [Act.put, qb24a, qb24z, qb24s]
            obtain ⟨X, rfl⟩ : ∃ X, X = Y := ⟨_, rfl⟩
            have x0 := ka.c00
            have x1 := ka.c01
            have x2 := ka.f0
            refine wpAnyH_ready (rs := [13]) (by kernel_rfl) (by simp) ?_
            refine AllReadyH.cons (o := ⟨none, .store _ (.tmp 8) (.tmp 33), _, _, _, _⟩) rfl (fun K hK => ?_) AllReadyH.nil
            go_simp
            have hS := hSof _ lv
            refine hK.out _ _ ⟨cell_put2 hS.1 n1 _ _, cell_put2 hS.2.1 n1 _ _, cell_put2 hS.2.2.1 n2 _ _, cell_put2 hS.2.2.2 n2 _ _⟩ (fun _ => ?_)
            clear hK K
            try simp only [Act.put, qb24a, qb24z, qb24s]
            have kb := kb.otherPut n5 (.string c1) (.string c2)
            have x3 := kb.c00
            have x4 := kb.c01
            have x5 := kb.f0
            refine wpAnyH_ready (rs := [14]) (by kernel_rfl) (by simp) ?_
            refine AllReadyH.cons (o := ⟨none, .store _ (.tmp 9) (.tmp 40), _, _, _, _⟩) rfl (fun K hK => ?_) AllReadyH.nil
            go_simp
            refine hK.out _ _ ⟨cell_put2 (cell_put2 hS.1 n1 _ _) n3 _ _, cell_put2 (cell_put2 hS.2.1 n1 _ _) n3 _ _, cell_put2 (cell_put2 hS.2.2.1 n2 _ _) n4 _ _, cell_put2 (cell_put2 hS.2.2.2 n2 _ _) n4 _ _⟩ (fun _ => ?_)
            clear hK K
            refine wpAnyH_done (by kernel_rfl) ?_ _
            exact HQ.out _ lv
          · go_simp
            refine (H11 _ lv).mono ?_
            rintro e Y ⟨rfl, hb'⟩
            have lv := lv.trans (hb'.mono lv.size)
            have ka := ka.below hb'
            have kb := kb.below hb'
            refine hK.out _ _ (hSof _ lv) (fun _ => ?_)
            clear hK K
            try simp only [Act.put, qb24a, qb24z, qb24s]
            obtain ⟨X, rfl⟩ : ∃ X, X = Y := ⟨_, rfl⟩
            refine wpAnyH_ready (rs := [7]) (by kernel_rfl) (by simp) ?_
            refine AllReadyH.cons (o := ⟨some 35, _, _, _, _, _⟩) rfl (fun K hK => ?_) AllReadyH.nil
            have x0 := kb.c00
            have x1 := kb.c01
            go_simp
            refine hK.out _ _ (hSof _ lv) (fun _ => ?_)
            clear hK K
            try simp only [Act.put, qb24a, qb24z, qb24s]
            refine wpAnyH_ready (rs := [12]) (by kernel_rfl) (by simp) ?_
            refine AllReadyH.cons (o := ⟨some 40, _, _, _, _, _⟩) rfl (fun K hK => ?_) AllReadyH.nil
            go_simp
            refine (H12 _ lv).mono ?_
            rintro e Y ⟨rfl, hb'⟩
            have lv := lv.trans (hb'.mono lv.size)
            have ka := ka.below hb'
            have kb := kb.below hb'
            refine hK.out _ _ (hSof _ lv) (fun _ => ?_)
            clear hK K
            try simp only [Act.put, qb24a, qb24z, qb24s]
            obtain ⟨X, rfl⟩ : ∃ X, X = Y := ⟨_, rfl⟩
            have x0 := ka.c00
            have x1 := ka.c01
            have x2 := ka.f0
            refine wpAnyH_ready (rs := [13]) (by kernel_rfl) (by simp) ?_
            refine AllReadyH.cons (o := ⟨none, .store _ (.tmp 8) (.tmp 33), _, _, _, _⟩) rfl (fun K hK => ?_) AllReadyH.nil
            go_simp
            have hS := hSof _ lv
            refine hK.out _ _ ⟨cell_put2 hS.1 n1 _ _, cell_put2 hS.2.1 n1 _ _, cell_put2 hS.2.2.1 n2 _ _, cell_put2 hS.2.2.2 n2 _ _⟩ (fun _ => ?_)
            clear hK K
            try simp only [Act.put, qb24a, qb24z, qb24s]
            have kb := kb.otherPut n5 (.string c1) (.string c2)
            have x3 := kb.c00
            have x4 := kb.c01
            have x5 := kb.f0
            refine wpAnyH_ready (rs := [14]) (by kernel_rfl) (by simp) ?_
            refine AllReadyH.cons (o := ⟨none, .store _ (.tmp 9) (.tmp 40), _, _, _, _⟩) rfl (fun K hK => ?_) AllReadyH.nil
            go_simp
            refine hK.out _ _ ⟨cell_put2 (cell_put2 hS.1 n1 _ _) n3 _ _, cell_put2 (cell_put2 hS.2.1 n1 _ _) n3 _ _, cell_put2 (cell_put2 hS.2.2.1 n2 _ _) n4 _ _, cell_put2 (cell_put2 hS.2.2.2 n2 _ _) n4 _ _⟩ (fun _ => ?_)
            clear hK K
            refine wpAnyH_done (by kernel_rfl) ?_ _
            exact HQ.out _ lv
      · have x0 := kb.c00
        have x1 := kb.c01
        go_simp
        refine hK.out _ _ (hSof _ lv) (fun _ => ?_)
        clear hK K
        try simp only [Act.put, qb24a, qb24z, qb24s]
        refine wpAnyH_ready (rs := [5]) (by kernel_rfl) (by simp) ?_
        refine AllReadyH.cons (o := ⟨some 33, _, _, _, _, _⟩) rfl (fun K hK => ?_) AllReadyH.nil
        go_simp
        refine (H5 _ lv).mono ?_
        rintro e Y ⟨rfl, hb'⟩
        have lv := lv.trans (hb'.mono lv.size)
        have ka := ka.below hb'
        have kb := kb.below hb'
        refine hK.out _ _ (hSof _ lv) (fun _ => ?_)
        clear hK K
        try simp only [Act.put, qb24a, qb24z, qb24s]
        obtain ⟨X, rfl⟩ : ∃ X, X = Y := ⟨_, rfl⟩
        refine wpAnyH_ready (rs := [10]) (by kernel_rfl) (by simp) ?_
        refine AllReadyH.cons (o := ⟨some 38, _, _, _, _, _⟩) rfl (fun K hK => ?_) AllReadyH.nil
        go_simp
        refine (H10 _ lv).mono ?_
        rintro e Y ⟨rfl, hb'⟩
        have lv := lv.trans (hb'.mono lv.size)
        have ka := ka.below hb'
        have kb := kb.below hb'
        refine hK.out _ _ (hSof _ lv) (fun _ => ?_)
        clear hK K
        try simp only [Act.put, qb24a, qb24z, qb24s]
        obtain ⟨X, rfl⟩ : ∃ X, X = Y := ⟨_, rfl⟩
        refine wpAnyH_ready (rs := [11]) (by kernel_rfl) (by simp) ?_
        refine AllReadyH.cons (o := ⟨some 39, _, _, _, _, _⟩) rfl (fun K hK => ?_) AllReadyH.nil
        go_simp
        refine (H11 _ lv).mono ?_
        rintro e Y ⟨rfl, hb'⟩
        have lv := lv.trans (hb'.mono lv.size)
        have ka := ka.below hb'
        have kb := kb.below hb'
        refine hK.out _ _ (hSof _ lv) (fun _ => ?_)
        clear hK K
        try simp only [Act.put, qb24a, qb24z, qb24s]
        obtain ⟨X, rfl⟩ : ∃ X, X = Y := ⟨_, rfl⟩
        refine wpAnyH_ready (rs := [12]) (by kernel_rfl) (by simp) ?_
        refine AllReadyH.cons (o := ⟨some 40, _, _, _, _, _⟩) rfl (fun K hK => ?_) AllReadyH.nil
        go_simp
        refine (H12 _ lv).mono ?_
        rintro e Y ⟨rfl, hb'⟩
        have lv := lv.trans (hb'.mono lv.size)
        have ka := ka.below hb'
        have kb := kb.below hb'
        refine hK.out _ _ (hSof _ lv) (fun _ => ?_)
        clear hK K
        try simp only [Act.put, qb24a, qb24z, qb24s]
        obtain ⟨X, rfl⟩ : ∃ X, X = Y := ⟨_, rfl⟩
        have x0 := ka.c00
        have x1 := ka.c01
        have x2 := ka.f0
        refine wpAnyH_ready (rs := [13]) (by kernel_rfl) (by simp) ?_
        refine AllReadyH.cons (o := ⟨none, .store _ (.tmp 8) (.tmp 33), _, _, _, _⟩) rfl (fun K hK => ?_) AllReadyH.nil
        go_simp
        have hS := hSof _ lv
        refine hK.out _ _ ⟨cell_put2 hS.1 n1 _ _, cell_put2 hS.2.1 n1 _ _, cell_put2 hS.2.2.1 n2 _ _, cell_put2 hS.2.2.2 n2 _ _⟩ (fun _ => ?_)
        clear hK K
        try simp only [Act.put, qb24a, qb24z, qb24s]
        have kb := kb.otherPut n5 (.string c1) (.string c2)
        have x3 := kb.c00
        have x4 := kb.c01
        have x5 := kb.f0
        refine wpAnyH_ready (rs := [14]) (by kernel_rfl) (by simp) ?_
        refine AllReadyH.cons (o := ⟨none, .store _ (.tmp 9) (.tmp 40), _, _, _, _⟩) rfl (fun K hK => ?_) AllReadyH.nil
        go_simp
        refine hK.out _ _ ⟨cell_put2 (cell_put2 hS.1 n1 _ _) n3 _ _, cell_put2 (cell_put2 hS.2.1 n1 _ _) n3 _ _, cell_put2 (cell_put2 hS.2.2.1 n2 _ _) n4 _ _, cell_put2 (cell_put2 hS.2.2.2 n2 _ _) n4 _ _⟩ (fun _ => ?_)
        clear hK K
        refine wpAnyH_done (by kernel_rfl) ?_ _
        exact HQ.out _ lv
    · have x0 := kb.c00
      have x1 := kb.c01
      go_simp
      refine hK.out _ _ (hSof _ lv) (fun _ => ?_)
      clear hK K
      try simp only [Act.put, qb24a, qb24z, qb24s]
      refine wpAnyH_ready (rs := [1]) (by kernel_rfl) (by simp) ?_
      refine AllReadyH.cons (o := ⟨some 29, _, _, _, _, _⟩) rfl (fun K hK => ?_) AllReadyH.nil
      have x0 := ka.c00
      have x1 := ka.c01
      go_simp
      refine hK.out _ _ (hSof _ lv) (fun _ => ?_)
      clear hK K
      try simp only [Act.put, qb24a, qb24z, qb24s]
      refine wpAnyH_ready (rs := [5]) (by kernel_rfl) (by simp) ?_
      refine AllReadyH.cons (o := ⟨some 33, _, _, _, _, _⟩) rfl (fun K hK => ?_) AllReadyH.nil
      go_simp
      refine (H5 _ lv).mono ?_
      rintro e Y ⟨rfl, hb'⟩
      have lv := lv.trans (hb'.mono lv.size)
      have ka := ka.below hb'
      have kb := kb.below hb'
      refine hK.out _ _ (hSof _ lv) (fun _ => ?_)
      clear hK K
      try simp only [Act.put, qb24a, qb24z, qb24s]
      obtain ⟨X, rfl⟩ : ∃ X, X = Y := ⟨_, rfl⟩
      refine wpAnyH_ready (rs := [10]) (by kernel_rfl) (by simp) ?_
      refine AllReadyH.cons (o := ⟨some 38, _, _, _, _, _⟩) rfl (fun K hK => ?_) AllReadyH.nil
      go_simp
      refine (H10 _ lv).mono ?_
      rintro e Y ⟨rfl, hb'⟩
      have lv := lv.trans (hb'.mono lv.size)
      have ka := ka.below hb'
      have kb := kb.below hb'
      refine hK.out _ _ (hSof _ lv) (fun _ => ?_)
      clear hK K
      try simp only [Act.put, qb24a, qb24z, qb24s]
      obtain ⟨X, rfl⟩ : ∃ X, X = Y := ⟨_, rfl⟩
      refine wpAnyH_ready (rs := [11]) (by kernel_rfl) (by simp) ?_
      refine AllReadyH.cons (o := ⟨some 39, _, _, _, _, _⟩) rfl (fun K hK => ?_) AllReadyH.nil
      go_simp
      refine (H11 _ lv).mono ?_
      rintro e Y ⟨rfl, hb'⟩
      have lv := lv.trans (hb'.mono lv.size)
      have ka := ka.below hb'
      have kb := kb.below hb'
      refine hK.out _ _ (hSof _ lv) (fun _ => ?_)
      clear hK K
      try simp only [Act.put, qb24a, qb24z, qb24s]
      obtain ⟨X, rfl⟩ : ∃ X, X = Y := ⟨_, rfl⟩
      refine wpAnyH_ready (rs := [12]) (by kernel_rfl) (by simp) ?_
      refine AllReadyH.cons (o := ⟨some 40, _, _, _, _, _⟩) rfl (fun K hK => ?_) AllReadyH.nil
      go_simp
      refine (H12 _ lv).mono ?_
      rintro e Y ⟨rfl, hb'⟩
      have lv := lv.trans (hb'.mono lv.size)
      have ka := ka.below hb'
      have kb := kb.below hb'
      refine hK.out _ _ (hSof _ lv) (fun _ => ?_)
      clear hK K
      try simp only [Act.put, qb24a, qb24z, qb24s]
      obtain ⟨X, rfl⟩ : ∃ X, X = Y := ⟨_, rfl⟩
      have x0 := ka.c00
      have x1 := ka.c01
      have x2 := ka.f0
      refine wpAnyH_ready (rs := [13]) (by kernel_rfl) (by simp) ?_
      refine AllReadyH.cons (o := ⟨none, .store _ (.tmp 8) (.tmp 33), _, _, _, _⟩) rfl (fun K hK => ?_) AllReadyH.nil
      go_simp
      have hS := hSof _ lv
      refine hK.out _ _ ⟨cell_put2 hS.1 n1 _ _, cell_put2 hS.2.1 n1 _ _, cell_put2 hS.2.2.1 n2 _ _, cell_put2 hS.2.2.2 n2 _ _⟩ (fun _ => ?_)
      clear hK K
      try simp only [Act.put, qb24a, qb24z, qb24s]
      have kb := kb.otherPut n5 (.string c1) (.string c2)
      have x3 := kb.c00
      have x4 := kb.c01
      have x5 := kb.f0
      refine wpAnyH_ready (rs := [14]) (by kernel_rfl) (by simp) ?_
      refine AllReadyH.cons (o := ⟨none, .store _ (.tmp 9) (.tmp 40), _, _, _, _⟩) rfl (fun K hK => ?_) AllReadyH.nil
      go_simp
      refine hK.out _ _ ⟨cell_put2 (cell_put2 hS.1 n1 _ _) n3 _ _, cell_put2 (cell_put2 hS.2.1 n1 _ _) n3 _ _, cell_put2 (cell_put2 hS.2.2.1 n2 _ _) n4 _ _, cell_put2 (cell_put2 hS.2.2.2 n2 _ _) n4 _ _⟩ (fun _ => ?_)
      clear hK K
      refine wpAnyH_done (by kernel_rfl) ?_ _
      exact HQ.out _ lv
  · have x0 := kb.c00
    have x1 := kb.c01
    go_simp
    refine hK.out _ _ (hSof _ lv) (fun _ => ?_)
    clear hK K
    try simp only [Act.put, qb24a, qb24z, qb24s]
    refine wpAnyH_ready (rs := [1, 4]) (by kernel_rfl) (by simp) ?_
    refine AllReadyH.cons (o := ⟨some 29, _, _, _, _, _⟩) rfl (fun K hK => ?_) (AllReadyH.cons (o := ⟨some 32, _, _, _, _, _⟩) rfl (fun K hK => ?_) AllReadyH.nil)
    · have x0 := ka.c00
      have x1 := ka.c01
      go_simp
      refine hK.out _ _ (hSof _ lv) (fun _ => ?_)
      clear hK K
      try simp only [Act.put, qb24a, qb24z, qb24s]
      refine wpAnyH_ready (rs := [4]) (by kernel_rfl) (by simp) ?_
      refine AllReadyH.cons (o := ⟨some 32, _, _, _, _, _⟩) rfl (fun K hK => ?_) AllReadyH.nil
      go_simp
      refine (H4 _ lv).mono ?_
      rintro e Y ⟨rfl, hb'⟩
      have lv := lv.trans (hb'.mono lv.size)
      have ka := ka.below hb'
      have kb := kb.below hb'
      refine hK.out _ _ (hSof _ lv) (fun _ => ?_)
      clear hK K
      try simp only [Act.put, qb24a, qb24z, qb24s]
      obtain ⟨X, rfl⟩ : ∃ X, X = Y := ⟨_, rfl⟩
      refine wpAnyH_ready (rs := [5]) (by kernel_rfl) (by simp) ?_
      refine AllReadyH.cons (o := ⟨some 33, _, _, _, _, _⟩) rfl (fun K hK => ?_) AllReadyH.nil
      go_simp
      refine (H5 _ lv).mono ?_
      rintro e Y ⟨rfl, hb'⟩
      have lv := lv.trans (hb'.mono lv.size)
      have ka := ka.below hb'
      have kb := kb.below hb'
      refine hK.out _ _ (hSof _ lv) (fun _ => ?_)
      clear hK K
      try simp only [Act.put, qb24a, qb24z, qb24s]
      obtain ⟨X, rfl⟩ : ∃ X, X = Y := ⟨_, rfl⟩
      refine wpAnyH_ready (rs := [10]) (by kernel_rfl) (by simp) ?_
      refine AllReadyH.cons (o := ⟨some 38, _, _, _, _, _⟩) rfl (fun K hK => ?_) AllReadyH.nil
      go_simp
      refine (H10 _ lv).mono ?_
      rintro e Y ⟨rfl, hb'⟩
      have lv := lv.trans (hb'.mono lv.size)
      have ka := ka.below hb'
      have kb := kb.below hb'
      refine hK.out _ _ (hSof _ lv) (fun _ => ?_)
      clear hK K
      try simp only [Act.put, qb24a, qb24z, qb24s]
      obtain ⟨X, rfl⟩ : ∃ X, X = Y := ⟨_, rfl⟩
      refine wpAnyH_ready (rs := [11]) (by kernel_rfl) (by simp) ?_
      refine AllReadyH.cons (o := ⟨some 39, _, _, _, _, _⟩) rfl (fun K hK => ?_) AllReadyH.nil
      go_simp
      refine (H11 _ lv).mono ?_
      rintro e Y ⟨rfl, hb'⟩
      have lv := lv.trans (hb'.mono lv.size)
      have ka := ka.below hb'
      have kb := kb.below hb'
      refine hK.out _ _ (hSof _ lv) (fun _ => ?_)
      clear hK K
      try simp only [Act.put, qb24a, qb24z, qb24s]
      obtain ⟨X, rfl⟩ : ∃ X, X = Y := ⟨_, rfl⟩
      refine wpAnyH_ready (rs := [12]) (by kernel_rfl) (by simp) ?_
      refine AllReadyH.cons (o := ⟨some 40, _, _, _, _, _⟩) rfl (fun K hK => ?_) AllReadyH.nil
      go_simp
      refine (H12 _ lv).mono ?_
      rintro e Y ⟨rfl, hb'⟩
      have lv := lv.trans (hb'.mono lv.size)
      have ka := ka.below hb'
      have kb := kb.below hb'
      refine hK.out _ _ (hSof _ lv) (fun _ => ?_)
      clear hK K
      try simp only [Act.put, qb24a, qb24z, qb24s]
      obtain ⟨X, rfl⟩ : ∃ X, X = Y := ⟨_, rfl⟩
      have x0 := ka.c00
      have x1 := ka.c01
      have x2 := ka.f0
      refine wpAnyH_ready (rs := [13]) (by kernel_rfl) (by simp) ?_
      refine AllReadyH.cons (o := ⟨none, .store _ (.tmp 8) (.tmp 33), _, _, _, _⟩) rfl (fun K hK => ?_) AllReadyH.nil
      go_simp
      have hS := hSof _ lv
      refine hK.out _ _ ⟨cell_put2 hS.1 n1 _ _, cell_put2 hS.2.1 n1 _ _, cell_put2 hS.2.2.1 n2 _ _, cell_put2 hS.2.2.2 n2 _ _⟩ (fun _ => ?_)
      clear hK K
      try simp only [Act.put, qb24a, qb24z, qb24s]
      have kb := kb.otherPut n5 (.string c1) (.string c2)
      have x3 := kb.c00
      have x4 := kb.c01
      have x5 := kb.f0
      refine wpAnyH_ready (rs := [14]) (by kernel_rfl) (by simp) ?_
      refine AllReadyH.cons (o := ⟨none, .store _ (.tmp 9) (.tmp 40), _, _, _, _⟩) rfl (fun K hK => ?_) AllReadyH.nil
      go_simp
      refine hK.out _ _ ⟨cell_put2 (cell_put2 hS.1 n1 _ _) n3 _ _, cell_put2 (cell_put2 hS.2.1 n1 _ _) n3 _ _, cell_put2 (cell_put2 hS.2.2.1 n2 _ _) n4 _ _, cell_put2 (cell_put2 hS.2.2.2 n2 _ _) n4 _ _⟩ (fun _ => ?_)
      clear hK K
      refine wpAnyH_done (by kernel_rfl) ?_ _
      exact HQ.out _ lv
    · go_simp
      refine (H4 _ lv).mono ?_
      rintro e Y ⟨rfl, hb'⟩
      have lv := lv.trans (hb'.mono lv.size)
      have ka := ka.below hb'
      have kb := kb.below hb'
      refine hK.out _ _ (hSof _ lv) (fun _ => ?_)
      clear hK K
      try simp only [Act.put, qb24a, qb24z, qb24s]
      obtain ⟨X, rfl⟩ : ∃ X, X = Y := ⟨_, rfl⟩
      refine wpAnyH_ready (rs := [1]) (by kernel_rfl) (by simp) ?_
      refine AllReadyH.cons (o := ⟨some 29, _, _, _, _, _⟩) rfl (fun K hK => ?_) AllReadyH.nil
      have x0 := ka.c00
      have x1 := ka.c01
      go_simp
      refine hK.out _ _ (hSof _ lv) (fun _ => ?_)
      clear hK K
      try simp only [Act.put, qb24a, qb24z, qb24s]
      refine wpAnyH_ready (rs := [5]) (by kernel_rfl) (by simp) ?_
      refine AllReadyH.cons (o := ⟨some 33, _, _, _, _, _⟩) rfl (fun K hK => ?_) AllReadyH.nil
      go_simp
      refine (H5 _ lv).mono ?_
      rintro e Y ⟨rfl, hb'⟩
      have lv := lv.trans (hb'.mono lv.size)
      have ka := ka.below hb'
      have kb := kb.below hb'
      refine hK.out _ _ (hSof _ lv) (fun _ => ?_)
      clear hK K
      try simp only [Act.put, qb24a, qb24z, qb24s]
      obtain ⟨X, rfl⟩ : ∃ X, X = Y := ⟨_, rfl⟩
      refine wpAnyH_ready (rs := [10]) (by kernel_rfl) (by simp) ?_
      refine AllReadyH.cons (o := ⟨some 38, _, _, _, _, _⟩) rfl (fun K hK => ?_) AllReadyH.nil
      go_simp
      refine (H10 _ lv).mono ?_
      rintro e Y ⟨rfl, hb'⟩
      have lv := lv.trans (hb'.mono lv.size)
      have ka := ka.below hb'
      have kb := kb.below hb'
      refine hK.out _ _ (hSof _ lv) (fun _ => ?_)
      clear hK K
      try simp only [Act.put, qb24a, qb24z, qb24s]
      obtain ⟨X, rfl⟩ : ∃ X, X = Y := ⟨_, rfl⟩
      refine wpAnyH_ready (rs := [11]) (by kernel_rfl) (by simp) ?_
      refine AllReadyH.cons (o := ⟨some 39, _, _, _, _, _⟩) rfl (fun K hK => ?_) AllReadyH.nil
      go_simp
      refine (H11 _ lv).mono ?_
      rintro e Y ⟨rfl, hb'⟩
      have lv := lv.trans (hb'.mono lv.size)
      have ka := ka.below hb'
      have kb := kb.below hb'
      refine hK.out _ _ (hSof _ lv) (fun _ => ?_)
      clear hK K
      try simp only [Act.put, qb24a, qb24z, qb24s]
      obtain ⟨X, rfl⟩ : ∃ X, X = Y := ⟨_, rfl⟩
      refine wpAnyH_ready (rs := [12]) (by kernel_rfl) (by simp) ?_
      refine AllReadyH.cons (o := ⟨some 40, _, _, _, _, _⟩) rfl (fun K hK => ?_) AllReadyH.nil
      go_simp
      refine (H12 _ lv).mono ?_
      rintro e Y ⟨rfl, hb'⟩
      have lv := lv.trans (hb'.mono lv.size)
      have ka := ka.below hb'
      have kb := kb.below hb'
      refine hK.out _ _ (hSof _ lv) (fun _ => ?_)
      clear hK K
      try simp only [Act.put, qb24a, qb24z, qb24s]
      obtain ⟨X, rfl⟩ : ∃ X, X = Y := ⟨_, rfl⟩
      have x0 := ka.c00
      have x1 := ka.c01
      have x2 := ka.f0
      refine wpAnyH_ready (rs := [13]) (by kernel_rfl) (by simp) ?_
      refine AllReadyH.cons (o := ⟨none, .store _ (.tmp 8) (.tmp 33), _, _, _, _⟩) rfl (fun K hK => ?_) AllReadyH.nil
      go_simp
      have hS := hSof _ lv
      refine hK.out _ _ ⟨cell_put2 hS.1 n1 _ _, cell_put2 hS.2.1 n1 _ _, cell_put2 hS.2.2.1 n2 _ _, cell_put2 hS.2.2.2 n2 _ _⟩ (fun _ => ?_)
      clear hK K
      try simp only [Act.put, qb24a, qb24z, qb24s]
      have kb := kb.otherPut n5 (.string c1) (.string c2)
      have x3 := kb.c00
      have x4 := kb.c01
      have x5 := kb.f0
      refine wpAnyH_ready (rs := [14]) (by kernel_rfl) (by simp) ?_
      refine AllReadyH.cons (o := ⟨none, .store _ (.tmp 9) (.tmp 40), _, _, _, _⟩) rfl (fun K hK => ?_) AllReadyH.nil
      go_simp
      refine hK.out _ _ ⟨cell_put2 (cell_put2 hS.1 n1 _ _) n3 _ _, cell_put2 (cell_put2 hS.2.1 n1 _ _) n3 _ _, cell_put2 (cell_put2 hS.2.2.1 n2 _ _) n4 _ _, cell_put2 (cell_put2 hS.2.2.2 n2 _ _) n4 _ _⟩ (fun _ => ?_)
      clear hK K
      refine wpAnyH_done (by kernel_rfl) ?_ _
      exact HQ.out _ lv

end Go.Proofs.YtppbhnhmaocdnaaGreatDoor
namespace Go.Proofs.YtppbhnhmaocdnaaGreatDoor
open Go.RowKit Go.Shelf

def qSub (a b : Int × Int) : Int × Int := (rnum (a.1 * b.2 - b.1 * a.2) (a.2 * b.2), rden (a.1 * b.2 - b.1 * a.2) (a.2 * b.2))
def qAdd (a b : Int × Int) : Int × Int := (rnum (a.1 * b.2 + b.1 * a.2) (a.2 * b.2), rden (a.1 * b.2 + b.1 * a.2) (a.2 * b.2))
def qDiv (a b : Int × Int) : Int × Int := (rnum (a.1 * b.2) (a.2 * b.1), rden (a.1 * b.2) (a.2 * b.1))
def IsQ (a : Int × Int) : Prop := IsR a.1 a.2
structure QSubOk (a b : Int × Int) : Prop where
  h1 : IsQ a
  h2 : IsQ b
  ha : (a.1 * b.2).natAbs < big
  hb : (b.1 * a.2).natAbs < big
  hn : (a.1 * b.2 - b.1 * a.2).natAbs < big
  hd : (a.2 * b.2).natAbs < big
structure QAddOk (a b : Int × Int) : Prop where
  h1 : IsQ a
  h2 : IsQ b
  ha : (a.1 * b.2).natAbs < big
  hb : (b.1 * a.2).natAbs < big
  hn : (a.1 * b.2 + b.1 * a.2).natAbs < big
  hd : (a.2 * b.2).natAbs < big
structure QDivOk (a b : Int × Int) : Prop where
  h1 : IsQ a
  h2 : IsQ b
  hz : b.1 ≠ 0
  hn : (a.1 * b.2).natAbs < big
  hd : (a.2 * b.1).natAbs < big
structure QMulOk (a b : Int × Int) : Prop where
  h1 : IsQ a
  h2 : IsQ b
  hn : (a.1 * b.1).natAbs < big
  hd : (a.2 * b.2).natAbs < big
def QPost (r : Int × Int) (w : World) (e : Ending) (w' : World) : Prop := e = .returned (.tuple #[.agg #[.string (str r.1), .string (str r.2)], .int .i64 0]) ∧ Below w.heap.size w w'
theorem subQ {a b : Int × Int} {w : World} (h : QSubOk a b) (ht : TabOf w) : Calls Tryz.prog 15 #[NV a, NV b] w (QPost (qSub a b) w) := rsub_in a.1 a.2 b.1 b.2 w h.h1 h.h2 h.ha h.hb h.hn h.hd ht
theorem addQ {a b : Int × Int} {w : World} (h : QAddOk a b) (ht : TabOf w) : Calls Tryz.prog 11 #[NV a, NV b] w (QPost (qAdd a b) w) := radd_in a.1 a.2 b.1 b.2 w h.h1 h.h2 h.ha h.hb h.hn h.hd ht
theorem divQ {a b : Int × Int} {w : World} (h : QDivOk a b) (ht : TabOf w) : Calls Tryz.prog 25 #[NV a, NV b] w (QPost (qDiv a b) w) := rdiv_in a.1 a.2 b.1 b.2 w h.h1 h.h2 h.hz h.hn h.hd ht
def dblQ (x : Int × Int) : Nat → Int × Int
  | 0 => x
  | i + 1 => qDiv (dblQ x i) (2, 1)
def logArg (x : Int × Int) (D : Nat) : Int × Int := qDiv (qSub (dblQ x D) (1, 1)) (qAdd (dblQ x D) (1, 1))
def pLog (k : Nat) (x : Int × Int) (D M1 M2 : Nat) : Int × Int := pPlus (pArt k (pOf k (logArg x D).1 (logArg x D).2) M2) (pBy (pArt k (pOf k 1 3) M1) D 1)
structure LogOk (k : Nat) (x : Int × Int) (D M1 M2 : Nat) : Prop where
  hk : k ≤ 150
  hD : D ≤ 1000
  q : ∀ i, i ≤ D → IsQ (dblQ x i)
  q2 : IsQ (2, 1)
  go : ∀ i, i < D → 0 < cmpQ (dblQ x i).1 (dblQ x i).2 2 1
  stop : cmpQ (dblQ x D).1 (dblQ x D).2 2 1 ≤ 0
  dv : ∀ i, i < D → QDivOk (dblQ x i) (2, 1)
  sb : QSubOk (dblQ x D) (1, 1)
  ad : QAddOk (dblQ x D) (1, 1)
  qt : QDivOk (qSub (dblQ x D) (1, 1)) (qAdd (dblQ x D) (1, 1))
  of3 : OfOk k 1 3
  a3 : ArtOk k (pOf k 1 3) M1
  oft : OfOk k (logArg x D).1 (logArg x D).2
  at_ : ArtOk k (pOf k (logArg x D).1 (logArg x D).2) M2
  byd : ByOk (pArt k (pOf k 1 3) M1) D 1
  pl : PlusOk (pArt k (pOf k (logArg x D).1 (logArg x D).2) M2) (pBy (pArt k (pOf k 1 3) M1) D 1)

structure LogI (w : World) (one : ByteArray) (k : Int) (x : Int × Int) (W : World) : Prop where
  s : RC w.heap.size W (.int .i64 k) (.string one)
  x : RC (w.heap.size + 1) W (.string (str x.1)) (.string (str x.2))
  o : RC (w.heap.size + 1 + 1) W (.string ⟨#[]⟩) (.string ⟨#[]⟩)
  t : RC (w.heap.size + 1 + 1 + 1) W (.string ⟨#[50]⟩) (.string ⟨#[49]⟩)
  u : RC (w.heap.size + 1 + 1 + 1 + 1) W (.string ⟨#[49]⟩) (.string ⟨#[49]⟩)
  b : Below w.heap.size w W
theorem LogI.below {w : World} {one : ByteArray} {k : Int} {x : Int × Int} {W W' : World} (h : LogI w one k x W) (hb : Below W.heap.size W W') : LogI w one k x W' := ⟨h.s.below hb, h.x.below hb, h.o.below hb, h.t.below hb, h.u.below hb, h.b.trans (hb.mono h.b.size)⟩
theorem LogI.drew {w : World} {one : ByteArray} {k : Int} {x : Int × Int} {W : World} (h : LogI w one k x W) : LogI w one k x W.drew := h.below (Below.refl _ W).drew
theorem LogI.put {w : World} {one : ByteArray} {k : Int} {x : Int × Int} {W : World} (h : LogI w one k x W) (y : Int × Int) :
    LogI w one k y ((W.setCell ⟨w.heap.size + 1, 0, none⟩ (.string (str y.1))).setCell ⟨w.heap.size + 1, 1, none⟩ (.string (str y.2))) :=
  ⟨h.s.otherPut (by omega) _ _, h.x.put _ _, h.o.otherPut (by omega) _ _, h.t.otherPut (by omega) _ _, h.u.otherPut (by omega) _ _, below_put2 h.b _ _ (by omega)⟩
theorem LogI.start (w : World) (one : ByteArray) (k : Int) (x : Int × Int) (T U V R : TypeId) :
    LogI w one k x (((((w.alloc (.cells #[.int .i64 k, .string one] T)).alloc (.cells #[.string (str x.1), .string (str x.2)] U)).alloc (.cells #[.string ⟨#[]⟩, .string ⟨#[]⟩] V)).alloc (.cells #[.string ⟨#[50]⟩, .string ⟨#[49]⟩] R)).alloc (.cells #[.string ⟨#[49]⟩, .string ⟨#[49]⟩] R)) := by
  obtain ⟨W1, h1, k1, k2, k3, k4, l⟩ := boxes4 w T U V R (.int .i64 k) (.string one) (.string (str x.1)) (.string (str x.2)) (.string ⟨#[]⟩) (.string ⟨#[]⟩) (.string ⟨#[50]⟩) (.string ⟨#[49]⟩)
  rw [← h1]
  have n := belowNew W1 (.cells #[.string ⟨#[49]⟩, .string ⟨#[49]⟩] R)
  have k5 := RC.new W1 R (.string ⟨#[49]⟩) (.string ⟨#[49]⟩)
  have e : W1.heap.size = w.heap.size + 1 + 1 + 1 + 1 := by rw [h1, sizeNew, sizeNew, sizeNew, sizeNew]
  rw [e] at k5
  exact ⟨k1.below n, k2.below n, k3.below n, k4.below n, k5, l.trans (n.mono l.size)⟩

set_option maxRecDepth 100000 in
set_option maxHeartbeats 8000000 in
theorem log_in (k : Nat) (x : Int × Int) (D M1 M2 : Nat) (w : World) (h : LogOk k x D M1 M2) (ht : TabOf w) :
    Calls Tryz.prog 48 #[SV k, NV x] w (NPost (pLog k x D M1 M2) w) := by
  have HC := Lib.hid (fun i (hi : i ≤ D) W h' => rcmp_in (dblQ x i).1 (dblQ x i).2 2 1 W (h.q i hi) h.q2 h')
  have HDV := Lib.hid (fun i (hi : i < D) W h' => divQ (w := W) (h.dv i hi) h')
  have HSB := fun W h' => subQ (w := W) h.sb h'
  have HAD := fun W h' => addQ (w := W) h.ad h'
  have HQT := fun W h' => divQ (w := W) h.qt h'
  have HO3 := fun W h' => ofP (w := W) h.of3 h'
  have HA3 := fun W h' => artanh_in k (pOf k 1 3) M1 W h.a3 h'
  have HOT := fun W h' => ofP (w := W) h.oft h'
  have HAT := fun W h' => artanh_in k (pOf k (logArg x D).1 (logArg x D).2) M2 W h.at_ h'
  have HBD := fun W h' => byP (k := k) (w := W) h.byd h'
  have HPL := fun W h' => plusP (k := k) (w := W) h.pl h'
  have HGO := Lib.hid h.go
  have HST := Lib.hid h.stop
  have hD := h.hD
  rw [show qDiv (qSub (dblQ x D) (1, 1)) (qAdd (dblQ x D) (1, 1)) = logArg x D from rfl] at HQT
  unfold pLog
  clear h
  unfold NPost NV SV RV at HO3 HOT
  unfold NPost NV SV at HA3 HAT HBD HPL ⊢
  unfold QPost NV at HSB HAD HQT HDV
  unfold RV at HC
  rw [str_one] at HO3
  rw [show str 3 = ⟨#[51]⟩ from str_dig (n := 3) (by omega)] at HO3
  dsimp only at HSB HAD HDV
  rw [str_one] at HSB HAD
  rw [show (str 2) = ⟨#[50]⟩ from str_two, str_one] at HDV HC
  generalize pPlus (pArt k (pOf k (logArg x D).1 (logArg x D).2) M2) (pBy (pArt k (pOf k 1 3) M1) D 1) = RR at *
  generalize pBy (pArt k (pOf k 1 3) M1) D 1 = BD at *
  generalize pArt k (pOf k (logArg x D).1 (logArg x D).2) M2 = AT at *
  generalize pArt k (pOf k 1 3) M1 = A3 at *
  generalize pOf k (logArg x D).1 (logArg x D).2 = OT at *
  generalize pOf k 1 3 = O3 at *
  generalize logArg x D = LA at *
  generalize qSub (dblQ x D) (1, 1) = SB at *
  generalize qAdd (dblQ x D) (1, 1) = AD at *
  obtain ⟨RR1, RR2⟩ := RR
  obtain ⟨BD1, BD2⟩ := BD
  obtain ⟨AT1, AT2⟩ := AT
  obtain ⟨A31, A32⟩ := A3
  obtain ⟨OT1, OT2⟩ := OT
  obtain ⟨O31, O32⟩ := O3
  obtain ⟨LA1, LA2⟩ := LA
  obtain ⟨SB1, SB2⟩ := SB
  obtain ⟨AD1, AD2⟩ := AD
  dsimp only at *
  generalize str RR1 = RR1 at *
  generalize str RR2 = RR2 at *
  generalize str BD1 = BD1 at *
  generalize str BD2 = BD2 at *
  generalize str AT1 = AT1 at *
  generalize str AT2 = AT2 at *
  generalize str A31 = A31 at *
  generalize str A32 = A32 at *
  generalize str OT1 = OT1 at *
  generalize str OT2 = OT2 at *
  generalize str O31 = O31 at *
  generalize str O32 = O32 at *
  generalize str LA1 = LA1 at *
  generalize str LA2 = LA2 at *
  generalize str SB1 = SB1 at *
  generalize str SB2 = SB2 at *
  generalize str AD1 = AD1 at *
  generalize str AD2 = AD2 at *
  generalize str ((10 ^ k : Nat) : Int) = one at *
  have HSB := Lib.hid HSB
  have HAD := Lib.hid HAD
  have HQT := Lib.hid HQT
  have HO3 := Lib.hid HO3
  have HA3 := Lib.hid HA3
  have HOT := Lib.hid HOT
  have HAT := Lib.hid HAT
  have HBD := Lib.hid HBD
  have HPL := Lib.hid HPL
  have hI := LogI.start w one k x 59 25 61 25
  go_enter Tryz.func48, Tryz.ntmps48
  go_wp2
  go_loopw [7] (fun i W => ∃ m : Nat, i = .int .i64 m ∧ m ≤ D ∧ LogI w one k (dblQ x m) W) (fun i _ => D - (intOf i).toNat)
  case atStart => exact ⟨0, rfl, Nat.zero_le _, hI⟩
  case round =>
    obtain ⟨m, rfl, hm, hI⟩ := hrel
    have hC := HC.out m hm
    have y0 := hI.x.c00
    have y1 := hI.x.c01
    have y2 := hI.t.c00
    have y3 := hI.t.c01
    rcases Nat.lt_or_ge m D with hlt | hge
    · have hd : decide (0 < cmpQ (dblQ x m).1 (dblQ x m).2 2 1) = true := decide_eq_true (HGO.out m hlt)
      have hV := HDV.out m hlt
      have HPU := Lib.hid (fun W (h : LogI w one k (dblQ x m) W) => h.put (dblQ x (m + 1)))
      rw [show qDiv (dblQ x m) (2, 1) = dblQ x (m + 1) from rfl] at hV
      clear HC HDV HSB HAD HQT HO3 HA3 HOT HAT HBD HPL HGO HST
      generalize cmpQ (dblQ x m).1 (dblQ x m).2 2 1 = c at *
      have hC := Lib.hid hC
      have hV := Lib.hid hV
      go_wp2_with (first
        | (go_at_call 17; refine (hC.out _ (ht.below hI.b)).mono ?_; rintro e w1 ⟨rfl, hb1⟩; have i1 := hI.below hb1; have z0 := i1.x.c00; have z1 := i1.x.c01; have z2 := i1.t.c00; have z3 := i1.t.c01)
        | (go_at_call 25; refine (hV.out _ (ht.below i1.b)).mono ?_; rintro e w2 ⟨rfl, hb2⟩; have i2 := i1.below hb2; have z0 := i2.x.c00; have z1 := i2.x.c01; have z2 := i2.x.f0))
      go_roundw
      case rel => exact ⟨m + 1, by push_cast; rfl, by omega, HPU.out _ i2⟩
      case measure => simp [intOf]; omega
    · obtain rfl : m = D := by omega
      have hd : decide (0 < cmpQ (dblQ x m).1 (dblQ x m).2 2 1) = false := decide_eq_false (by have := HST.out; omega)
      clear HC HDV HGO HST
      generalize cmpQ (dblQ x m).1 (dblQ x m).2 2 1 = c at *
      have hC := Lib.hid hC
      have y4 := hI.u.c00
      have y5 := hI.u.c01
      go_wp2_with (first
        | (go_at_call 17; refine (hC.out _ (ht.below hI.b)).mono ?_; rintro e w1 ⟨rfl, hb1⟩; have i1 := hI.below hb1; have z0 := i1.x.c00; have z1 := i1.x.c01; have z2 := i1.u.c00; have z3 := i1.u.c01)
        | (go_at_call 15; refine (HSB.out _ (ht.below i1.b)).mono ?_; rintro e w2 ⟨rfl, hb2⟩; have bn2 := belowNew w2 (.cells #[.string SB1, .string SB2] 25); have i2 := (i1.below hb2).below bn2; have v2 := RC.new w2 25 (.string SB1) (.string SB2); have z0 := i2.x.c00; have z1 := i2.x.c01; have z2 := i2.u.c00; have z3 := i2.u.c01)
        | (go_at_call 11; refine (HAD.out _ (ht.below i2.b)).mono ?_; rintro e w3 ⟨rfl, hb3⟩; have bn3 := belowNew w3 (.cells #[.string AD1, .string AD2] 25); have i3 := (i2.below hb3).below bn3; have v3 := RC.new w3 25 (.string AD1) (.string AD2); have v23 := (v2.below hb3).below bn3; have z0 := v3.c00; have z1 := v3.c01; have z2 := v23.c00; have z3 := v23.c01)
        | (go_at_call 25; refine (HQT.out _ (ht.below i3.b)).mono ?_; rintro e w4 ⟨rfl, hb4⟩; have bn4 := belowNew w4 (.cells #[.string LA1, .string LA2] 25); have i4 := (i3.below hb4).below bn4; have v4 := RC.new w4 25 (.string LA1) (.string LA2)))
      refine logReg (h_bs := i4.s) (H0 := fun V hV => HO3.out V (ht.below (i4.b.trans (hV.mono i4.b.size)))) (H1 := fun V hV => HA3.out V (ht.below (i4.b.trans (hV.mono i4.b.size)))) (hP := ?hP) (hQ := ?hQ)
      case hP => exact fun _ _ d _ _ h => by cases d <;> exact h
      case hQ =>
        intro To F hro hTo hlF
        have i5 := i4.below hlF
        have v5 := v4.below hlF
        have hw4 : w.heap.size + 1 + 1 < w4.heap.size := by have := ltOf (i3.below hb4).o.c00; exact this
        have hoF : w.heap.size + 1 + 1 < To := Nat.lt_of_lt_of_le (ltOf i4.o.c00) hTo
        have n0 : w.heap.size + 1 + 1 ≠ w.heap.size := by omega
        have n1 : w.heap.size + 1 + 1 ≠ To := by omega
        have n2 : w.heap.size + 1 + 1 ≠ w4.heap.size := by omega
        have j0 := i5.drew
        have u0 := v5.drew
        have t0 := hro.drew
        clear i1 i2 i3 i4 i5 v2 v3 v23 v4 v5 hI bn2 bn3 bn4 hb1 hb2 hb3 hb4 hlF hTo hoF hw4 hro y0 y1 y2 y3 y4 y5 HSB HAD HQT HO3 HA3 hC hd
        go_wp2
        go_region_held3 (fun W => W.cell? ⟨w.heap.size, 0, none⟩ = some (.int .i64 (k : Int)) ∧ W.cell? ⟨w.heap.size, 1, none⟩ = some (.string one) ∧ W.cell? ⟨w4.heap.size, 0, none⟩ = some (.string LA1) ∧ W.cell? ⟨w4.heap.size, 1, none⟩ = some (.string LA2) ∧ W.cell? ⟨To, 0, none⟩ = some (.string A31) ∧ W.cell? ⟨To, 1, none⟩ = some (.string A32))
          (first
            | with_reducible exact ⟨j0.s.c00, j0.s.c01, u0.c00, u0.c01, t0.c00, t0.c01⟩
            | with_reducible exact ⟨j1.s.c00, j1.s.c01, u1.c00, u1.c01, t1.c00, t1.c01⟩
            | with_reducible exact ⟨j2.s.c00, j2.s.c01, u2.c00, u2.c01, t2.c00, t2.c01⟩
            | with_reducible exact ⟨j3.s.c00, j3.s.c01, u3.c00, u3.c01, t3.c00, t3.c01⟩
            | with_reducible exact ⟨j4.s.c00, j4.s.c01, u4.c00, u4.c01, t4.c00, t4.c01⟩
            | exact ⟨cell_put2 j4.s.c00 n0 _ _, cell_put2 j4.s.c01 n0 _ _, cell_put2 u4.c00 n2 _ _, cell_put2 u4.c01 n2 _ _, cell_put2 t4.c00 n1 _ _, cell_put2 t4.c01 n1 _ _⟩) (first
          | (go_at_call 43; refine (HOT.out (World.drew _) (ht.below j0.b)).mono ?_; rintro e w5 ⟨rfl, hb5⟩; have j1 := j0.below hb5; have u1 := u0.below hb5; have t1 := t0.below hb5)
          | (go_at_call 90; refine (HAT.out _ (ht.below j1.b)).mono ?_; rintro e w6 ⟨rfl, hb6⟩; have j2 := j1.below hb6; have u2 := u1.below hb6; have t2 := t1.below hb6)
          | (go_at_call 84; refine (HBD.out _ (ht.below j2.b)).mono ?_; rintro e w7 ⟨rfl, hb7⟩; have j3 := j2.below hb7; have u3 := u2.below hb7; have t3 := t2.below hb7)
          | (go_at_call 91; refine (HPL.out _ (ht.below j3.b)).mono ?_; rintro e w8 ⟨rfl, hb8⟩; have j4 := j3.below hb8; have u4 := u3.below hb8; have t4 := t3.below hb8; have z0 := j4.o.c00; have z1 := j4.o.c01; have z2 := j4.o.f0))
        all_goals
          go_wp2
          have r5 := j4.o.put (.string RR1) (.string RR2)
          refine bodyPost_ret_by (v := .agg #[.string RR1, .string RR2]) (by simp [results, Tryz.f48, go_sem, r5.c00, r5.c01]) rfl ⟨rfl, below_put2 j4.b _ _ (by omega)⟩
end Go.Proofs.YtppbhnhmaocdnaaGreatDoor
namespace Go.Proofs.YtppbhnhmaocdnaaGreatDoor
open Go.RowKit Go.Shelf

def tailT (k : Nat) (y : Int × Int) (f : Int) : Nat → Int × Int
  | 0 => pWhole k 1
  | i + 1 => pBy (pTimes k (tailT k y f i) y) 2 (f + 2 * ((i : Int) + 1))
def tlAB (k : Nat) (y : Int × Int) (f : Int) (ab : Int × Int) : Nat → Int × Int
  | 0 => ab
  | j + 1 => if 1 < f - 2 * (j : Int) then pTimes k (tlAB k y f ab j) y else tlAB k y f ab j
def tlBE (f : Int) (be : Int × Int) : Nat → Int × Int
  | 0 => be
  | j + 1 => pBy (tlBE f be j) (f - 2 * (j : Int)) 2
def tailY (k : Nat) (x : Int × Int) : Int × Int := pBy (pOf k x.1 x.2) 1 2
def tailA (k : Nat) (x : Int × Int) (f : Int) (M r1 r2 : Nat) : Int × Int :=
  if f % 2 = 1 then pTimes k (sumP (tailT k (tailY k x) f) M) (pRoot r1 r2) else sumP (tailT k (tailY k x) f) M
def tailB (k : Nat) (x : Int × Int) (f : Int) (H M2 p1 p2 : Nat) : Int × Int :=
  if f % 2 = 1 then pTimes k (pExp k (tailY k x) H M2) (pRoot p1 p2) else pExp k (tailY k x) H M2
def pTail (k : Nat) (x : Int × Int) (f : Int) (M H M2 r1 r2 p1 p2 J : Nat) : Int × Int :=
  pMinus (pWhole k 1) (pOver k (tlAB k (tailY k x) f (tailA k x f M r1 r2) J) (tlBE f (tailB k x f H M2 p1 p2) J))
structure TailOk (k : Nat) (x : Int × Int) (f : Int) (M H M2 r1 r2 p1 p2 J : Nat) : Prop where
  hk : k ≤ 80
  f1 : 1 ≤ f
  f2 : f ≤ 20
  hJ : f ≤ 2 * (J : Int) ∧ 2 * (J : Int) < f + 2
  of : OfOk k x.1 x.2
  hy : ByOk (pOf k x.1 x.2) 1 2
  one : Fit (pWhole k 1)
  sum : SumB (tailT k (tailY k x) f) M
  tm : ∀ i, i < M → TimesOk k (tailT k (tailY k x) f i) (tailY k x)
  bm : ∀ i : Nat, i < M → ByOk (pTimes k (tailT k (tailY k x) f i) (tailY k x)) 2 (f + 2 * ((i : Int) + 1))
  ex : ExpOk k (tailY k x) H M2
  ry : f % 2 = 1 → RootOk k (tailY k x) r1 r2
  ta : f % 2 = 1 → TimesOk k (sumP (tailT k (tailY k x) f) M) (pRoot r1 r2)
  rp : f % 2 = 1 → RootOk k (pPi k) p1 p2
  tb : f % 2 = 1 → TimesOk k (pExp k (tailY k x) H M2) (pRoot p1 p2)
  lb : ∀ j, j < J → ByOk (tlBE f (tailB k x f H M2 p1 p2) j) (f - 2 * (j : Int)) 2
  la : ∀ j : Nat, 1 < f - 2 * (j : Int) → TimesOk k (tlAB k (tailY k x) f (tailA k x f M r1 r2) j) (tailY k x)
  ov : OverOk k (tlAB k (tailY k x) f (tailA k x f M r1 r2) J) (tlBE f (tailB k x f H M2 p1 p2) J)
  mi : MinusOk (pWhole k 1) (pOver k (tlAB k (tailY k x) f (tailA k x f M r1 r2) J) (tlBE f (tailB k x f H M2 p1 p2) J))

structure TlS (w : World) (one : ByteArray) (k f : Int) (n' d' : ByteArray) (W : World) : Prop where
  s : RC w.heap.size W (.int .i64 k) (.string one)
  x : RC (w.heap.size + 1) W (.string n') (.string d')
  f : W.cell? ⟨w.heap.size + 1 + 1, 0, none⟩ = some (.int .i64 f)
  o : RC (w.heap.size + 1 + 1 + 1) W (.string ⟨#[]⟩) (.string ⟨#[]⟩)
  b : Below w.heap.size w W
theorem TlS.below {w : World} {one : ByteArray} {k f : Int} {n' d' : ByteArray} {W W' : World} (h : TlS w one k f n' d' W) (hb : Below W.heap.size W W') : TlS w one k f n' d' W' :=
  ⟨h.s.below hb, h.x.below hb, Below.get hb h.f, h.o.below hb, h.b.trans (hb.mono h.b.size)⟩
theorem TlS.drew {w : World} {one : ByteArray} {k f : Int} {n' d' : ByteArray} {W : World} (h : TlS w one k f n' d' W) : TlS w one k f n' d' W.drew := h.below (Below.refl _ W).drew
theorem TlS.put {w : World} {one : ByteArray} {k f : Int} {n' d' : ByteArray} {W : World} (h : TlS w one k f n' d' W) {R : Nat} (hR : w.heap.size + 1 + 1 + 1 < R) (u v : Value) :
    TlS w one k f n' d' ((W.setCell ⟨R, 0, none⟩ u).setCell ⟨R, 1, none⟩ v) :=
  ⟨h.s.otherPut (by omega) _ _, h.x.otherPut (by omega) _ _, cell_put2 h.f (by omega) _ _, h.o.otherPut (by omega) _ _, below_put2 h.b _ _ (by omega)⟩
theorem TlS.start (w : World) (one : ByteArray) (k f : Int) (n' d' : ByteArray) (T U V R : TypeId) :
    TlS w one k f n' d' ((((w.alloc (.cells #[.int .i64 k, .string one] T)).alloc (.cells #[.string n', .string d'] U)).alloc (.cells #[.int .i64 f] V)).alloc (.cells #[.string ⟨#[]⟩, .string ⟨#[]⟩] R)) := by
  obtain ⟨W1, h1, k1, k2, l⟩ := boxes2 w T U (.int .i64 k) (.string one) (.string n') (.string d')
  rw [← h1]
  have e : W1.heap.size = w.heap.size + 1 + 1 := by rw [h1, sizeNew, sizeNew]
  have n3 := belowNew W1 (.cells #[.int .i64 f] V)
  have k3 := cellAt W1 #[.int .i64 f] V 0 _ rfl
  rw [e] at k3
  have n4 := belowNew (W1.alloc (.cells #[.int .i64 f] V)) (.cells #[.string ⟨#[]⟩, .string ⟨#[]⟩] R)
  have k4 := RC.new (W1.alloc (.cells #[.int .i64 f] V)) R (.string ⟨#[]⟩) (.string ⟨#[]⟩)
  rw [sizeNew, e] at k4
  have l3 := l.trans (n3.mono l.size)
  exact ⟨(k1.below n3).below n4, (k2.below n3).below n4, Below.get n4 k3, k4, l3.trans (n4.mono l3.size)⟩

structure TlI (w : World) (one : ByteArray) (k f : Int) (n' d' y1 y2 : ByteArray) (T7 T8 T9 : Nat) (ab be : Int × Int) (W : World) : Prop where
  t : TlS w one k f n' d' W
  y : RC T7 W (.string y1) (.string y2)
  a : RC T8 W (.string (str ab.1)) (.string (str ab.2))
  e : RC T9 W (.string (str be.1)) (.string (str be.2))
theorem TlI.below {w : World} {one : ByteArray} {k f : Int} {n' d' y1 y2 : ByteArray} {T7 T8 T9 : Nat} {ab be : Int × Int} {W W' : World} (h : TlI w one k f n' d' y1 y2 T7 T8 T9 ab be W) (hb : Below W.heap.size W W') : TlI w one k f n' d' y1 y2 T7 T8 T9 ab be W' :=
  ⟨h.t.below hb, h.y.below hb, h.a.below hb, h.e.below hb⟩
theorem TlI.drew {w : World} {one : ByteArray} {k f : Int} {n' d' y1 y2 : ByteArray} {T7 T8 T9 : Nat} {ab be : Int × Int} {W : World} (h : TlI w one k f n' d' y1 y2 T7 T8 T9 ab be W) : TlI w one k f n' d' y1 y2 T7 T8 T9 ab be W.drew := h.below (Below.refl _ W).drew
theorem TlI.putE {w : World} {one : ByteArray} {k f : Int} {n' d' y1 y2 : ByteArray} {T7 T8 T9 : Nat} {ab be : Int × Int} {W : World} (h : TlI w one k f n' d' y1 y2 T7 T8 T9 ab be W) (h9 : w.heap.size + 1 + 1 + 1 < T9) (h79 : T9 ≠ T7) (h89 : T9 ≠ T8) (z : Int × Int) :
    TlI w one k f n' d' y1 y2 T7 T8 T9 ab z ((W.setCell ⟨T9, 0, none⟩ (.string (str z.1))).setCell ⟨T9, 1, none⟩ (.string (str z.2))) :=
  ⟨h.t.put h9 _ _, h.y.otherPut h79 _ _, h.a.otherPut h89 _ _, h.e.put _ _⟩
theorem TlI.putA {w : World} {one : ByteArray} {k f : Int} {n' d' y1 y2 : ByteArray} {T7 T8 T9 : Nat} {ab be : Int × Int} {W : World} (h : TlI w one k f n' d' y1 y2 T7 T8 T9 ab be W) (h8 : w.heap.size + 1 + 1 + 1 < T8) (h78 : T8 ≠ T7) (h89 : T8 ≠ T9) (z : Int × Int) :
    TlI w one k f n' d' y1 y2 T7 T8 T9 z be ((W.setCell ⟨T8, 0, none⟩ (.string (str z.1))).setCell ⟨T8, 1, none⟩ (.string (str z.2))) :=
  ⟨h.t.put h8 _ _, h.y.otherPut h78 _ _, h.a.put _ _, h.e.otherPut h89 _ _⟩

set_option maxRecDepth 100000 in
set_option maxHeartbeats 20000000 in
theorem tail_in (k : Nat) (x : Int × Int) (f : Int) (M H M2 r1 r2 p1 p2 J : Nat) (w : World) (h : TailOk k x f M H M2 r1 r2 p1 p2 J) (ht : TabOf w) :
    Calls Tryz.prog 72 #[SV k, NV x, .int .i64 f] w (NPost (pTail k x f M H M2 r1 r2 p1 p2 J) w) := by
  have HOF := fun W h' => ofP (w := W) h.of h'
  have HHY := fun W h' => byP (k := k) (w := W) h.hy h'
  have HWH := fun W h' => wholeP (k := k) (n := 1) (w := W) h.of.hk (by decide) h.one h'
  have HTE := termsC (pWhole k 1) (.func 116)
  have f1 := h.f1
  have f2 := h.f2
  have HSX : ∀ (bx : Nat) (V0 : World), (∀ V, Below V0.heap.size V0 V → TabOf V) → RC w.heap.size V0 (.int .i64 (k : Int)) (.string (str ((10 ^ k : Nat) : Int))) → RC bx V0 (.string (str (tailY k x).1)) (.string (str (tailY k x).2)) → V0.cell? ⟨w.heap.size + 1 + 1, 0, none⟩ = some (.int .i64 f) →
      SumC2 k (str ((10 ^ k : Nat) : Int)) (str (pWhole k 1).1) (str (pWhole k 1).2) (str (sumP (tailT k (tailY k x) f) M).1) (str (sumP (tailT k (tailY k x) f) M).2) (.func (.func 116) #[] #[.pointer (some ⟨w.heap.size, 0, none⟩), .pointer (some ⟨bx, 0, none⟩), .pointer (some ⟨w.heap.size + 1 + 1, 0, none⟩)]) V0 :=
    fun bx V0 h1 h2 h3 h4 => sumC2 k h.of.hk _ _ (tailT k (tailY k x) f) M V0 h1 h.sum ent_tail1_in
      (fun i hi A hA => tail1_in k w.heap.size bx (w.heap.size + 1 + 1) f i (tailY k x) (tailT k (tailY k x) f i) A (h2.belowB hA (ltOf h2.c00)) (h3.belowB hA (ltOf h3.c00)) ((hA.cell (p := ⟨w.heap.size + 1 + 1, 0, none⟩) (ltOf h4)).trans h4) (h.tm i hi) (h.bm i hi) (by have := h.sum.hM; omega) ⟨by omega, by omega⟩ (h1 A hA))
  have HEX := fun W h' => exp_in k (tailY k x) H M2 W h.ex h'
  have HLB := Lib.hid (fun j (hj : j < J) W h' => byP (k := k) (w := W) (h.lb j hj) h')
  have HLA := Lib.hid (fun (j : Nat) (hj : 1 < f - 2 * (j : Int)) W h' => timesP (k := k) (w := W) (h.la j hj) h')
  have HOV := fun W h' => overP (w := W) h.ov h'
  have HMI := fun W h' => minusP (k := k) (w := W) h.mi h'
  have hJ1 := h.hJ.1
  have hJ2 := h.hJ.2
  have HPT : Hid (NPost (pTail k x f M H M2 r1 r2 p1 p2 J) w = fun e w' => e = .returned (.agg #[.string (str (pTail k x f M H M2 r1 r2 p1 p2 J).1), .string (str (pTail k x f M H M2 r1 r2 p1 p2 J).2)]) ∧ Below w.heap.size w w') := Lib.hid rfl
  rw [HPT.out]
  rw [show pMinus (pWhole k 1) (pOver k (tlAB k (tailY k x) f (tailA k x f M r1 r2) J) (tlBE f (tailB k x f H M2 p1 p2) J)) = pTail k x f M H M2 r1 r2 p1 p2 J from rfl] at HMI
  rw [show pBy (pOf k x.1 x.2) 1 2 = tailY k x from rfl] at HHY
  have HABE : Hid (∀ ab be, ab = tailA k x f M r1 r2 → be = tailB k x f H M2 p1 p2 → True) := Lib.hid (fun _ _ _ _ => trivial)
  unfold NPost NV SV RV at HOF
  unfold NPost NV SV at HHY HWH HEX HLB HLA HOV HMI
  unfold NV SV
  generalize hPT : pTail k x f M H M2 r1 r2 p1 p2 J = PT at *
  clear HPT hPT HABE
  by_cases hodd : f % 2 = 1
  · have HRY := fun W h' => rootP (w := W) (h.ry hodd) h'
    have HTA := fun W h' => timesP (w := W) (h.ta hodd) h'
    have HPI := fun W h' => piP (k := k) (w := W) h.hk h'
    have HRP := fun W h' => rootP (w := W) (h.rp hodd) h'
    have HTB := fun W h' => timesP (w := W) (h.tb hodd) h'
    have eA : tailA k x f M r1 r2 = pTimes k (sumP (tailT k (tailY k x) f) M) (pRoot r1 r2) := by unfold tailA; rw [if_pos hodd]
    have eB : tailB k x f H M2 p1 p2 = pTimes k (pExp k (tailY k x) H M2) (pRoot p1 p2) := by unfold tailB; rw [if_pos hodd]
    rw [← eA] at HTA
    rw [← eB] at HTB
    clear eA eB h
    unfold NPost NV SV at HRY HTA HPI HRP HTB
    generalize pRoot r1 r2 = RY at *
    generalize pRoot p1 p2 = RP at *
    generalize pPi k = PP at *
    obtain ⟨RY1, RY2⟩ := RY
    obtain ⟨RP1, RP2⟩ := RP
    obtain ⟨PP1, PP2⟩ := PP
    dsimp only at *
    generalize str RY1 = RY1 at *
    generalize str RY2 = RY2 at *
    generalize str RP1 = RP1 at *
    generalize str RP2 = RP2 at *
    generalize str PP1 = PP1 at *
    generalize str PP2 = PP2 at *
    generalize tailA k x f M r1 r2 = AB at *
    generalize tailB k x f H M2 p1 p2 = BE at *
    have HABE : Hid (tlAB k (tailY k x) f AB 0 = AB ∧ tlBE f BE 0 = BE) := Lib.hid ⟨rfl, rfl⟩
    have HSA : Hid (∀ j : Nat, 1 < f - 2 * (j : Int) → pTimes k (tlAB k (tailY k x) f AB j) (tailY k x) = tlAB k (tailY k x) f AB (j + 1)) := Lib.hid (fun j hj => (if_pos hj).symm)
    have HSN : Hid (∀ j : Nat, ¬ 1 < f - 2 * (j : Int) → tlAB k (tailY k x) f AB j = tlAB k (tailY k x) f AB (j + 1)) := Lib.hid (fun j hj => (if_neg hj).symm)
    have HSB : Hid (∀ j : Nat, pBy (tlBE f BE j) (f - 2 * (j : Int)) 2 = tlBE f BE (j + 1)) := Lib.hid (fun j => rfl)
    generalize sumP (tailT k (tailY k x) f) M = SU at *
    generalize pExp k (tailY k x) H M2 = EX at *
    obtain ⟨SU1, SU2⟩ := SU
    obtain ⟨EX1, EX2⟩ := EX
    dsimp only at *
    generalize str SU1 = SU1 at *
    generalize str SU2 = SU2 at *
    generalize str EX1 = EX1 at *
    generalize str EX2 = EX2 at *
    generalize pOver k (tlAB k (tailY k x) f AB J) (tlBE f BE J) = OV at *
    generalize pWhole k 1 = WH at *
    generalize pOf k x.1 x.2 = OF at *
    obtain ⟨OV1, OV2⟩ := OV
    obtain ⟨WH1, WH2⟩ := WH
    obtain ⟨OF1, OF2⟩ := OF
    dsimp only at *
    generalize str OV1 = OV1 at *
    generalize str OV2 = OV2 at *
    generalize str WH1 = WH1 at *
    generalize str WH2 = WH2 at *
    generalize str OF1 = OF1 at *
    generalize str OF2 = OF2 at *
    generalize str (tailY k x).1 = y1 at *
    generalize str (tailY k x).2 = y2 at *
    generalize str x.1 = n' at *
    generalize str x.2 = d' at *
    generalize str ((10 ^ k : Nat) : Int) = one at *
    have HOF := Lib.hid HOF
    have HHY := Lib.hid HHY
    have HWH := Lib.hid HWH
    have HTE := Lib.hid HTE
    have HSX := Lib.hid HSX
    have HEX := Lib.hid HEX
    have HOV := Lib.hid HOV
    have HMI := Lib.hid HMI
    have HRY := Lib.hid HRY
    have HTA := Lib.hid HTA
    have HPI := Lib.hid HPI
    have HRP := Lib.hid HRP
    have HTB := Lib.hid HTB
    have hI := TlS.start w one (k : Int) f n' d' 59 25 3 61
    have hoddB : (f % 2 == 1) = true := by simpa using hodd
    have hf0 : 0 ≤ f := by omega
    clear hodd
    go_enter Tryz.func72, Tryz.ntmps72
    go_wp2
    refine tailReg1 (h_bs := hI.s) (h_bx := hI.x) (H0 := fun V hV => HOF.out V (ht.below (hI.b.trans (hV.mono hI.b.size)))) (H1 := fun V hV => HHY.out V (ht.below (hI.b.trans (hV.mono hI.b.size)))) (hP := ?hP1) (hQ := ?hQ1)
    case hP1 => exact fun _ _ d _ _ h => by cases d <;> exact h
    case hQ1 =>
      intro T7 F1 hY1 hT7 hl1
      have i1 := hI.below hl1
      have g7 : w.heap.size + 1 + 1 + 1 < T7 := Nat.lt_of_lt_of_le (ltOf hI.o.c00) hT7
      clear hI hl1 hT7
      go_wp2
      refine tailReg2 (hs := i1.s) (HT := HTE.out _ _) (HS := HSX.out T7 _ (fun V hV => ht.below (i1.b.trans (hV.mono i1.b.size))) i1.s hY1 i1.f) (HW := fun V hV => HWH.out V (ht.below (i1.b.trans (hV.mono i1.b.size)))) (hP := ?hP2) (hQ := ?hQ2)
      case hP2 => exact fun _ _ d _ _ h => by cases d <;> exact h
      case hQ2 =>
        intro T8 xx F2 hA2 hT8 hl2
        have i2 := i1.below hl2
        have hY2 := hY1.below hl2
        have g78 : T7 < T8 := Nat.lt_of_lt_of_le (ltOf hY1.c00) hT8
        have x0 := i2.s.c00
        have x1 := i2.s.c01
        have x2 := hY2.c00
        have x3 := hY2.c01
        clear i1 hY1 hl2 hT8
        go_wp2_with (go_at_call 42; refine (HEX.out _ (ht.below i2.b)).mono ?_; rintro e w3 ⟨rfl, hb3⟩; have bn3 := belowNew w3 (.cells #[.string EX1, .string EX2] 61); have i3 := (i2.below hb3).below bn3; have hY3 := (hY2.below hb3).below bn3; have hA3 := (hA2.below hb3).below bn3; have hE3 := RC.new w3 61 (.string EX1) (.string EX2); have g89 : T8 < w3.heap.size := (ltOf (hA2.below hb3).c00); have y0 := i3.f)
        refine tailReg5 (hs := i3.s) (hx := hY3) (ha := hA3) (hb := hE3) (n1 := by omega) (n2 := by omega) (n3 := by omega) (n4 := by omega) (n5 := by omega)
          (H4 := fun V hV => HRY.out V (ht.below (i3.b.trans (hV.mono i3.b.size)))) (H5 := fun V hV => HTA.out V (ht.below (i3.b.trans (hV.mono i3.b.size)))) (H10 := fun V hV => HPI.out V (ht.below (i3.b.trans (hV.mono i3.b.size)))) (H11 := fun V hV => HRP.out V (ht.below (i3.b.trans (hV.mono i3.b.size)))) (H12 := fun V hV => HTB.out V (ht.below (i3.b.trans (hV.mono i3.b.size)))) (hP := ?hP3) (hQ := ?hQ3)
        case hP3 => exact fun _ _ d _ _ h => by cases d <;> exact h
        case hQ3 =>
          intro F3 hl3
          have HL0 : TlI w one k f n' d' y1 y2 T7 T8 w3.heap.size AB BE ((((F3.setCell ⟨T8, 0, none⟩ (.string (str AB.1))).setCell ⟨T8, 1, none⟩ (.string (str AB.2))).setCell ⟨w3.heap.size, 0, none⟩ (.string (str BE.1))).setCell ⟨w3.heap.size, 1, none⟩ (.string (str BE.2))) :=
            ⟨((i3.below hl3).put (by omega) _ _).put (by omega) _ _, ((hY3.below hl3).otherPut (by omega) _ _).otherPut (by omega) _ _, ((hA3.below hl3).put _ _).otherPut (by omega) _ _, ((hE3.below hl3).otherPut (by omega) _ _).put _ _⟩
          obtain ⟨WW, hWW⟩ : ∃ WW, WW = ((((F3.setCell ⟨T8, 0, none⟩ (.string (str AB.1))).setCell ⟨T8, 1, none⟩ (.string (str AB.2))).setCell ⟨w3.heap.size, 0, none⟩ (.string (str BE.1))).setCell ⟨w3.heap.size, 1, none⟩ (.string (str BE.2))) := ⟨_, rfl⟩
          rw [← hWW] at HL0 ⊢
          clear i2 i3 hY2 hY3 hA2 hA3 hE3 bn3 x0 x1 x2 x3 y0 hl3 hWW hb3 HRY HTA HPI HRP HTB hoddB
          have hL0 : TlI w one k f n' d' y1 y2 T7 T8 w3.heap.size (tlAB k (tailY k x) f AB 0) (tlBE f BE 0) WW := by
            rw [HABE.out.1, HABE.out.2]
            exact HL0
          have h9 : w.heap.size + 1 + 1 + 1 < w3.heap.size := by omega
          have h8 : w.heap.size + 1 + 1 + 1 < T8 := by omega
          have n97 : w3.heap.size ≠ T7 := by omega
          have n98 : w3.heap.size ≠ T8 := by omega
          have n87 : T8 ≠ T7 := by omega
          have z0 := hL0.t.f
          clear HOF HHY HTE HSX HEX HABE
          go_wp2
          go_loopw [10] (fun i W => ∃ j : Nat, i = .int .i64 (f - 2 * (j : Int)) ∧ j ≤ J ∧ TlI w one k f n' d' y1 y2 T7 T8 w3.heap.size (tlAB k (tailY k x) f AB j) (tlBE f BE j) W) (fun i _ => (intOf i + 2).toNat)
          case atStart => exact ⟨0, by simp, Nat.zero_le _, hL0⟩
          case round =>
            obtain ⟨j, rfl, hj, hL⟩ := hrel
            rcases Nat.lt_or_ge j J with hlt | hge
            · have hB := HLB.out j hlt
              rw [HSB.out j] at hB
              have hA := HLA.out j
              have hSA := HSA.out j
              have hSN := HSN.out j
              have HFIN : Hid (f - 2 * (j : Int) - 2 = f - 2 * ((j + 1 : Nat) : Int)) := Lib.hid (by push_cast; omega)
              have HP9 := Lib.hid (fun W (h : TlI w one k f n' d' y1 y2 T7 T8 w3.heap.size (tlAB k (tailY k x) f AB j) (tlBE f BE j) W) => h.putE h9 n97 n98 (tlBE f BE (j + 1)))
              have HP8 := Lib.hid (fun W (h : TlI w one k f n' d' y1 y2 T7 T8 w3.heap.size (tlAB k (tailY k x) f AB j) (tlBE f BE (j + 1)) W) => h.putA h8 n87 (Ne.symm n98) (tlAB k (tailY k x) f AB (j + 1)))
              have ha0 : 0 < f - 2 * (j : Int) := by omega
              have hau : f - 2 * (j : Int) ≤ 20 := by omega
              clear hL0 HLB HLA HSA HSN HSB HOV HMI HWH
              generalize f - 2 * (j : Int) = a at *
              by_cases h1 : 1 < a
              · have hA := hA h1
                rw [hSA h1] at hA
                have hB := Lib.hid hB
                have hA := Lib.hid hA
                have q0 := hL.t.s.c00
                have q1 := hL.t.s.c01
                have q2 := hL.e.c00
                have q3 := hL.e.c01
                clear hSA hSN
                go_wp2_with (first
                  | (go_at_call 84; refine (hB.out _ (ht.below hL.t.b)).mono ?_; rintro e w4 ⟨rfl, hb4⟩; have l4 := hL.below hb4; have l5 := HP9.out _ l4; have q0 := l5.t.s.c00; have q1 := l5.t.s.c01; have q2 := l5.y.c00; have q3 := l5.y.c01; have q4 := l5.a.c00; have q5 := l5.a.c01; have q6 := l4.e.c00; have q7 := l4.e.c01; have q8 := l4.e.f0)
                  | (go_at_call 88; refine (hA.out _ (ht.below l5.t.b)).mono ?_; rintro e w6 ⟨rfl, hb6⟩; have l6 := l5.below hb6; have q4 := l6.a.c00; have q5 := l6.a.c01; have q6 := l6.a.f0))
                have l7 := HP8.out _ l6
                go_roundw
                case rel => exact ⟨j + 1, by rw [← HFIN.out], by omega, l7⟩
                case measure => simp only [intOf]; omega
              · have hSN := hSN (by omega)
                have hB := Lib.hid hB
                have q0 := hL.t.s.c00
                have q1 := hL.t.s.c01
                have q2 := hL.e.c00
                have q3 := hL.e.c01
                have HSNH := Lib.hid hSN
                clear hSA hSN hA
                go_wp2_with (first
                  | (go_at_call 84; refine (hB.out _ (ht.below hL.t.b)).mono ?_; rintro e w4 ⟨rfl, hb4⟩; have l4 := hL.below hb4; have l5 := HP9.out _ l4; have q6 := l4.e.c00; have q7 := l4.e.c01; have q8 := l4.e.f0))
                rw [HSNH.out] at l5
                go_roundw
                case rel => exact ⟨j + 1, by rw [← HFIN.out], by omega, l5⟩
                case measure => simp only [intOf]; omega
            · obtain rfl : j = J := by omega
              have ha0 : ¬ 0 < f - 2 * (j : Int) := by omega
              have hlo : -20 ≤ f - 2 * (j : Int) := by omega
              clear HSA HSN HSB HLB HLA hL0
              generalize f - 2 * (j : Int) = a at *
              generalize tlAB k (tailY k x) f AB j = ab at *
              generalize tlBE f BE j = be at *
              obtain ⟨ab1, ab2⟩ := ab
              obtain ⟨be1, be2⟩ := be
              have m0 := hL.drew
              dsimp only at *
              clear hL
              have n0 : w.heap.size + 1 + 1 + 1 ≠ w.heap.size := by omega
              have n1 : w.heap.size + 1 + 1 + 1 ≠ T8 := by omega
              have n2 : w.heap.size + 1 + 1 + 1 ≠ w3.heap.size := by omega
              go_wp2
              go_region_held3 (fun W => W.cell? ⟨w.heap.size, 0, none⟩ = some (.int .i64 (k : Int)) ∧ W.cell? ⟨w.heap.size, 1, none⟩ = some (.string one) ∧ W.cell? ⟨T8, 0, none⟩ = some (.string (str ab1)) ∧ W.cell? ⟨T8, 1, none⟩ = some (.string (str ab2)) ∧ W.cell? ⟨w3.heap.size, 0, none⟩ = some (.string (str be1)) ∧ W.cell? ⟨w3.heap.size, 1, none⟩ = some (.string (str be2)))
                (first
                  | with_reducible exact ⟨m0.t.s.c00, m0.t.s.c01, m0.a.c00, m0.a.c01, m0.e.c00, m0.e.c01⟩
                  | with_reducible exact ⟨m1.t.s.c00, m1.t.s.c01, m1.a.c00, m1.a.c01, m1.e.c00, m1.e.c01⟩
                  | with_reducible exact ⟨m2.t.s.c00, m2.t.s.c01, m2.a.c00, m2.a.c01, m2.e.c00, m2.e.c01⟩
                  | with_reducible exact ⟨m3.t.s.c00, m3.t.s.c01, m3.a.c00, m3.a.c01, m3.e.c00, m3.e.c01⟩
                  | exact ⟨cell_put2 m3.t.s.c00 n0 _ _, cell_put2 m3.t.s.c01 n0 _ _, cell_put2 m3.a.c00 n1 _ _, cell_put2 m3.a.c01 n1 _ _, cell_put2 m3.e.c00 n2 _ _, cell_put2 m3.e.c01 n2 _ _⟩) (first
                | (go_at_call 41; refine (HWH.out (World.drew _) (ht.below m0.t.b)).mono ?_; rintro e w5 ⟨rfl, hb5⟩; have m1 := m0.below hb5)
                | (go_at_call 40; refine (HOV.out _ (ht.below m1.t.b)).mono ?_; rintro e w6 ⟨rfl, hb6⟩; have m2 := m1.below hb6)
                | (go_at_call 107; refine (HMI.out _ (ht.below m2.t.b)).mono ?_; rintro e w7 ⟨rfl, hb7⟩; have m3 := m2.below hb7; have z0 := m3.t.o.c00; have z1 := m3.t.o.c01; have z2 := m3.t.o.f0))
              all_goals
                go_wp2
                have r5 := m3.t.o.put (.string (str PT.1)) (.string (str PT.2))
                refine bodyPost_ret_by (v := .agg #[.string (str PT.1), .string (str PT.2)]) (by simp [results, Tryz.f72, go_sem, r5.c00, r5.c01]) rfl ⟨rfl, below_put2 m3.t.b _ _ (by omega)⟩
  · have eA : tailA k x f M r1 r2 = sumP (tailT k (tailY k x) f) M := by unfold tailA; rw [if_neg hodd]
    have eB : tailB k x f H M2 p1 p2 = pExp k (tailY k x) H M2 := by unfold tailB; rw [if_neg hodd]
    rw [← eA] at HSX
    rw [← eB] at HEX
    clear eA eB h
    generalize tailA k x f M r1 r2 = AB at *
    generalize tailB k x f H M2 p1 p2 = BE at *
    have HABE : Hid (tlAB k (tailY k x) f AB 0 = AB ∧ tlBE f BE 0 = BE) := Lib.hid ⟨rfl, rfl⟩
    have HSA : Hid (∀ j : Nat, 1 < f - 2 * (j : Int) → pTimes k (tlAB k (tailY k x) f AB j) (tailY k x) = tlAB k (tailY k x) f AB (j + 1)) := Lib.hid (fun j hj => (if_pos hj).symm)
    have HSN : Hid (∀ j : Nat, ¬ 1 < f - 2 * (j : Int) → tlAB k (tailY k x) f AB j = tlAB k (tailY k x) f AB (j + 1)) := Lib.hid (fun j hj => (if_neg hj).symm)
    have HSB : Hid (∀ j : Nat, pBy (tlBE f BE j) (f - 2 * (j : Int)) 2 = tlBE f BE (j + 1)) := Lib.hid (fun j => rfl)
    generalize pOver k (tlAB k (tailY k x) f AB J) (tlBE f BE J) = OV at *
    generalize pWhole k 1 = WH at *
    generalize pOf k x.1 x.2 = OF at *
    obtain ⟨OV1, OV2⟩ := OV
    obtain ⟨WH1, WH2⟩ := WH
    obtain ⟨OF1, OF2⟩ := OF
    dsimp only at *
    generalize str OV1 = OV1 at *
    generalize str OV2 = OV2 at *
    generalize str WH1 = WH1 at *
    generalize str WH2 = WH2 at *
    generalize str OF1 = OF1 at *
    generalize str OF2 = OF2 at *
    generalize str (tailY k x).1 = y1 at *
    generalize str (tailY k x).2 = y2 at *
    generalize str x.1 = n' at *
    generalize str x.2 = d' at *
    generalize str ((10 ^ k : Nat) : Int) = one at *
    have HOF := Lib.hid HOF
    have HHY := Lib.hid HHY
    have HWH := Lib.hid HWH
    have HTE := Lib.hid HTE
    have HSX := Lib.hid HSX
    have HEX := Lib.hid HEX
    have HOV := Lib.hid HOV
    have HMI := Lib.hid HMI
    have hI := TlS.start w one (k : Int) f n' d' 59 25 3 61
    have hoddB : (f % 2 == 1) = false := by simpa using hodd
    have hf0 : 0 ≤ f := by omega
    clear hodd
    go_enter Tryz.func72, Tryz.ntmps72
    go_wp2
    refine tailReg1 (h_bs := hI.s) (h_bx := hI.x) (H0 := fun V hV => HOF.out V (ht.below (hI.b.trans (hV.mono hI.b.size)))) (H1 := fun V hV => HHY.out V (ht.below (hI.b.trans (hV.mono hI.b.size)))) (hP := ?hP1) (hQ := ?hQ1)
    case hP1 => exact fun _ _ d _ _ h => by cases d <;> exact h
    case hQ1 =>
      intro T7 F1 hY1 hT7 hl1
      have i1 := hI.below hl1
      have g7 : w.heap.size + 1 + 1 + 1 < T7 := Nat.lt_of_lt_of_le (ltOf hI.o.c00) hT7
      clear hI hl1 hT7
      go_wp2
      refine tailReg2 (hs := i1.s) (HT := HTE.out _ _) (HS := HSX.out T7 _ (fun V hV => ht.below (i1.b.trans (hV.mono i1.b.size))) i1.s hY1 i1.f) (HW := fun V hV => HWH.out V (ht.below (i1.b.trans (hV.mono i1.b.size)))) (hP := ?hP2) (hQ := ?hQ2)
      case hP2 => exact fun _ _ d _ _ h => by cases d <;> exact h
      case hQ2 =>
        intro T8 xx F2 hA2 hT8 hl2
        have i2 := i1.below hl2
        have hY2 := hY1.below hl2
        have g78 : T7 < T8 := Nat.lt_of_lt_of_le (ltOf hY1.c00) hT8
        have x0 := i2.s.c00
        have x1 := i2.s.c01
        have x2 := hY2.c00
        have x3 := hY2.c01
        clear i1 hY1 hl2 hT8
        go_wp2_with (go_at_call 42; refine (HEX.out _ (ht.below i2.b)).mono ?_; rintro e w3 ⟨rfl, hb3⟩; have bn3 := belowNew w3 (.cells #[.string (str BE.1), .string (str BE.2)] 61); have i3 := (i2.below hb3).below bn3; have hY3 := (hY2.below hb3).below bn3; have hA3 := (hA2.below hb3).below bn3; have hE3 := RC.new w3 61 (.string (str BE.1)) (.string (str BE.2)); have g89 : T8 < w3.heap.size := (ltOf (hA2.below hb3).c00); have y0 := i3.f)
        have HL0 : TlI w one k f n' d' y1 y2 T7 T8 w3.heap.size AB BE (w3.alloc (.cells #[.string (str BE.1), .string (str BE.2)] 61)) := ⟨i3, hY3, hA3, hE3⟩
        obtain ⟨WW, hWW⟩ : ∃ WW, WW = (w3.alloc (.cells #[.string (str BE.1), .string (str BE.2)] 61)) := ⟨_, rfl⟩
        rw [← hWW] at HL0 ⊢
        clear i2 i3 hY2 hY3 hA2 hA3 hE3 bn3 x0 x1 x2 x3 y0 hWW hb3 hoddB
        have hL0 : TlI w one k f n' d' y1 y2 T7 T8 w3.heap.size (tlAB k (tailY k x) f AB 0) (tlBE f BE 0) WW := by
          rw [HABE.out.1, HABE.out.2]
          exact HL0
        have h9 : w.heap.size + 1 + 1 + 1 < w3.heap.size := by omega
        have h8 : w.heap.size + 1 + 1 + 1 < T8 := by omega
        have n97 : w3.heap.size ≠ T7 := by omega
        have n98 : w3.heap.size ≠ T8 := by omega
        have n87 : T8 ≠ T7 := by omega
        have z0 := hL0.t.f
        clear HOF HHY HTE HSX HEX HABE
        go_wp2
        go_loopw [10] (fun i W => ∃ j : Nat, i = .int .i64 (f - 2 * (j : Int)) ∧ j ≤ J ∧ TlI w one k f n' d' y1 y2 T7 T8 w3.heap.size (tlAB k (tailY k x) f AB j) (tlBE f BE j) W) (fun i _ => (intOf i + 2).toNat)
        case atStart => exact ⟨0, by simp, Nat.zero_le _, hL0⟩
        case round =>
          obtain ⟨j, rfl, hj, hL⟩ := hrel
          rcases Nat.lt_or_ge j J with hlt | hge
          · have hB := HLB.out j hlt
            rw [HSB.out j] at hB
            have hA := HLA.out j
            have hSA := HSA.out j
            have hSN := HSN.out j
            have HFIN : Hid (f - 2 * (j : Int) - 2 = f - 2 * ((j + 1 : Nat) : Int)) := Lib.hid (by push_cast; omega)
            have HP9 := Lib.hid (fun W (h : TlI w one k f n' d' y1 y2 T7 T8 w3.heap.size (tlAB k (tailY k x) f AB j) (tlBE f BE j) W) => h.putE h9 n97 n98 (tlBE f BE (j + 1)))
            have HP8 := Lib.hid (fun W (h : TlI w one k f n' d' y1 y2 T7 T8 w3.heap.size (tlAB k (tailY k x) f AB j) (tlBE f BE (j + 1)) W) => h.putA h8 n87 (Ne.symm n98) (tlAB k (tailY k x) f AB (j + 1)))
            have ha0 : 0 < f - 2 * (j : Int) := by omega
            have hau : f - 2 * (j : Int) ≤ 20 := by omega
            clear hL0 HLB HLA HSA HSN HSB HOV HMI HWH
            generalize f - 2 * (j : Int) = a at *
            by_cases h1 : 1 < a
            · have hA := hA h1
              rw [hSA h1] at hA
              have hB := Lib.hid hB
              have hA := Lib.hid hA
              have q0 := hL.t.s.c00
              have q1 := hL.t.s.c01
              have q2 := hL.e.c00
              have q3 := hL.e.c01
              clear hSA hSN
              go_wp2_with (first
                | (go_at_call 84; refine (hB.out _ (ht.below hL.t.b)).mono ?_; rintro e w4 ⟨rfl, hb4⟩; have l4 := hL.below hb4; have l5 := HP9.out _ l4; have q0 := l5.t.s.c00; have q1 := l5.t.s.c01; have q2 := l5.y.c00; have q3 := l5.y.c01; have q4 := l5.a.c00; have q5 := l5.a.c01; have q6 := l4.e.c00; have q7 := l4.e.c01; have q8 := l4.e.f0)
                | (go_at_call 88; refine (hA.out _ (ht.below l5.t.b)).mono ?_; rintro e w6 ⟨rfl, hb6⟩; have l6 := l5.below hb6; have q4 := l6.a.c00; have q5 := l6.a.c01; have q6 := l6.a.f0))
              have l7 := HP8.out _ l6
              go_roundw
              case rel => exact ⟨j + 1, by rw [← HFIN.out], by omega, l7⟩
              case measure => simp only [intOf]; omega
            · have hSN := hSN (by omega)
              have hB := Lib.hid hB
              have q0 := hL.t.s.c00
              have q1 := hL.t.s.c01
              have q2 := hL.e.c00
              have q3 := hL.e.c01
              have HSNH := Lib.hid hSN
              clear hSA hSN hA
              go_wp2_with (first
                | (go_at_call 84; refine (hB.out _ (ht.below hL.t.b)).mono ?_; rintro e w4 ⟨rfl, hb4⟩; have l4 := hL.below hb4; have l5 := HP9.out _ l4; have q6 := l4.e.c00; have q7 := l4.e.c01; have q8 := l4.e.f0))
              rw [HSNH.out] at l5
              go_roundw
              case rel => exact ⟨j + 1, by rw [← HFIN.out], by omega, l5⟩
              case measure => simp only [intOf]; omega
          · obtain rfl : j = J := by omega
            have ha0 : ¬ 0 < f - 2 * (j : Int) := by omega
            have hlo : -20 ≤ f - 2 * (j : Int) := by omega
            clear HSA HSN HSB HLB HLA hL0
            generalize f - 2 * (j : Int) = a at *
            generalize tlAB k (tailY k x) f AB j = ab at *
            generalize tlBE f BE j = be at *
            obtain ⟨ab1, ab2⟩ := ab
            obtain ⟨be1, be2⟩ := be
            have m0 := hL.drew
            dsimp only at *
            clear hL
            have n0 : w.heap.size + 1 + 1 + 1 ≠ w.heap.size := by omega
            have n1 : w.heap.size + 1 + 1 + 1 ≠ T8 := by omega
            have n2 : w.heap.size + 1 + 1 + 1 ≠ w3.heap.size := by omega
            go_wp2
            go_region_held3 (fun W => W.cell? ⟨w.heap.size, 0, none⟩ = some (.int .i64 (k : Int)) ∧ W.cell? ⟨w.heap.size, 1, none⟩ = some (.string one) ∧ W.cell? ⟨T8, 0, none⟩ = some (.string (str ab1)) ∧ W.cell? ⟨T8, 1, none⟩ = some (.string (str ab2)) ∧ W.cell? ⟨w3.heap.size, 0, none⟩ = some (.string (str be1)) ∧ W.cell? ⟨w3.heap.size, 1, none⟩ = some (.string (str be2)))
              (first
                | with_reducible exact ⟨m0.t.s.c00, m0.t.s.c01, m0.a.c00, m0.a.c01, m0.e.c00, m0.e.c01⟩
                | with_reducible exact ⟨m1.t.s.c00, m1.t.s.c01, m1.a.c00, m1.a.c01, m1.e.c00, m1.e.c01⟩
                | with_reducible exact ⟨m2.t.s.c00, m2.t.s.c01, m2.a.c00, m2.a.c01, m2.e.c00, m2.e.c01⟩
                | with_reducible exact ⟨m3.t.s.c00, m3.t.s.c01, m3.a.c00, m3.a.c01, m3.e.c00, m3.e.c01⟩
                | exact ⟨cell_put2 m3.t.s.c00 n0 _ _, cell_put2 m3.t.s.c01 n0 _ _, cell_put2 m3.a.c00 n1 _ _, cell_put2 m3.a.c01 n1 _ _, cell_put2 m3.e.c00 n2 _ _, cell_put2 m3.e.c01 n2 _ _⟩) (first
              | (go_at_call 41; refine (HWH.out (World.drew _) (ht.below m0.t.b)).mono ?_; rintro e w5 ⟨rfl, hb5⟩; have m1 := m0.below hb5)
              | (go_at_call 40; refine (HOV.out _ (ht.below m1.t.b)).mono ?_; rintro e w6 ⟨rfl, hb6⟩; have m2 := m1.below hb6)
              | (go_at_call 107; refine (HMI.out _ (ht.below m2.t.b)).mono ?_; rintro e w7 ⟨rfl, hb7⟩; have m3 := m2.below hb7; have z0 := m3.t.o.c00; have z1 := m3.t.o.c01; have z2 := m3.t.o.f0))
            all_goals
              go_wp2
              have r5 := m3.t.o.put (.string (str PT.1)) (.string (str PT.2))
              refine bodyPost_ret_by (v := .agg #[.string (str PT.1), .string (str PT.2)]) (by simp [results, Tryz.f72, go_sem, r5.c00, r5.c01]) rfl ⟨rfl, below_put2 m3.t.b _ _ (by omega)⟩
end Go.Proofs.YtppbhnhmaocdnaaGreatDoor
namespace Go.Proofs.YtppbhnhmaocdnaaGreatDoor
open Go.RowKit Go.Shelf

structure ShortQ (n d : Int) : Prop where
  r : IsR n d
  n : n.natAbs < 10 ^ 12
  d : d.natAbs < 10 ^ 12

set_option maxRecDepth 100000 in
set_option maxHeartbeats 4000000 in
theorem short_in (n d : Int) (w : World) (h : ShortQ n d) (ht : TabOf w) :
    Calls Tryz.prog 99 #[RV n d] w fun e w' => e = .returned (.bool true) ∧ Below w.heap.size w w' := by
  have HV := fun W h' => rv_true W h.r h'
  have HT : ∀ W, Calls Tryz.prog 142 #[.string (str n), .string ⟨#[45]⟩] W fun e w' => e = .returned (.string ⟨(Lib.decDigits n.natAbs).toArray⟩) ∧ W = w' := fun W => (Tryz.strings_TrimPrefix (str n) ⟨#[45]⟩ W).mono fun e w' h => ⟨by rw [h.1]; show Ending.returned (.string ⟨(body (str n).data.toList).toArray⟩) = _; rw [str_list, body_itoa], h.2.symm⟩
  have l1 := (dec_length_le n.natAbs 12 (by omega)).2 h.n
  have l2 := (dec_length_le d.natAbs 12 (by omega)).2 h.d
  have hd : str d = ⟨(Lib.decDigits d.natAbs).toArray⟩ := by
    have := h.r.pos
    rw [str, show d = ((d.natAbs : Nat) : Int) by omega, itoa_nat]
    simp
  unfold RV at HV ⊢
  rw [hd] at HV ⊢
  clear hd h
  generalize Lib.decDigits n.natAbs = dn at *
  generalize Lib.decDigits d.natAbs = dd at *
  generalize str n = s at *
  have HV := Lib.hid HV
  have HT := Lib.hid HT
  have bn := belowNew w (.cells #[.string s, .string ⟨dd.toArray⟩] 25)
  have k0 := RC.new w 25 (.string s) (.string ⟨dd.toArray⟩)
  have c0 := k0.c00
  have c1 := k0.c01
  have e1 : decide ((dn.length : Int) ≤ 12) = true := decide_eq_true (by omega)
  have e2 : decide ((dd.length : Int) ≤ 12) = true := decide_eq_true (by omega)
  go_enter Tryz.func99, Tryz.ntmps99
  go_wp2_with (first
    | (go_at_call 50; refine (HV.out _ (ht.below bn)).mono ?_; rintro e w1 ⟨rfl, hb1⟩; have k1 := k0.below hb1; have b1 := bn.trans (hb1.mono bn.size); have c0 := k1.c00; have c1 := k1.c01)
    | (go_at_call 142; refine (HT.out _).mono ?_; rintro e w2 ⟨rfl, rfl⟩))
  go_ret
  exact ⟨rfl, b1⟩
end Go.Proofs.YtppbhnhmaocdnaaGreatDoor
namespace Go.Proofs.YtppbhnhmaocdnaaGreatDoor
open Go.RowKit Go.Shelf

def FnV (lo hi at_ va : Int × Int) (B : Value) : Value :=
  .agg #[.string (str lo.1), .string (str lo.2), .string (str hi.1), .string (str hi.2), .string (str at_.1), .string (str at_.2), .string (str va.1), .string (str va.2), B]
structure R9 (R : Nat) (W : World) (a b c d e f g h i : Value) : Prop where
  c0 : W.cell? ⟨R, 0, none⟩ = some a
  c1 : W.cell? ⟨R, 1, none⟩ = some b
  c2 : W.cell? ⟨R, 2, none⟩ = some c
  c3 : W.cell? ⟨R, 3, none⟩ = some d
  c4 : W.cell? ⟨R, 4, none⟩ = some e
  c5 : W.cell? ⟨R, 5, none⟩ = some f
  c6 : W.cell? ⟨R, 6, none⟩ = some g
  c7 : W.cell? ⟨R, 7, none⟩ = some h
  c8 : W.cell? ⟨R, 8, none⟩ = some i
  fr : ∀ j, W.frozen? ⟨R, j, none⟩ = false
theorem R9.new (W : World) (t : TypeId) (a b c d e f g h i : Value) : R9 W.heap.size (W.alloc (.cells #[a, b, c, d, e, f, g, h, i] t)) a b c d e f g h i :=
  ⟨cellAt _ _ _ 0 _ rfl, cellAt _ _ _ 1 _ rfl, cellAt _ _ _ 2 _ rfl, cellAt _ _ _ 3 _ rfl, cellAt _ _ _ 4 _ rfl, cellAt _ _ _ 5 _ rfl, cellAt _ _ _ 6 _ rfl, cellAt _ _ _ 7 _ rfl, cellAt _ _ _ 8 _ rfl, fun j => frozenNew _ _ _ j _ rfl⟩
theorem R9.below {R : Nat} {W W' : World} {a b c d e f g h i : Value} (k : R9 R W a b c d e f g h i) (hb : Below W.heap.size W W') : R9 R W' a b c d e f g h i :=
  ⟨Below.get hb k.c0, Below.get hb k.c1, Below.get hb k.c2, Below.get hb k.c3, Below.get hb k.c4, Below.get hb k.c5, Below.get hb k.c6, Below.get hb k.c7, Below.get hb k.c8, fun j => (hb.frozen (p := ⟨R, j, none⟩) (ltOf k.c0)).trans (k.fr j)⟩

def rightB (lo hi x : Int × Int) (p : Int) : Bool := decide (0 ≤ p) && decide (p ≤ 12) && decide (0 ≤ cmpQ x.1 x.2 lo.1 lo.2) && decide (cmpQ x.1 x.2 hi.1 hi.2 ≤ 0)

set_option maxRecDepth 100000 in
set_option maxHeartbeats 8000000 in
theorem right_raw (lo hi x : Int × Int) (aa ab va1 vb : ByteArray) (B : Value) (p : Int) (w : World) (hB : ∃ fn a b, B = .func fn a b ∨ B = .nilFunc) (h1 : IsQ lo) (h2 : IsQ hi) (hx : ShortQ x.1 x.2) (hp1 : -1000000000000000000 ≤ p) (hp2 : p ≤ 1000000000000000000) (ht : TabOf w) :
    Calls Tryz.prog 53 #[.agg #[.string (str lo.1), .string (str lo.2), .string (str hi.1), .string (str hi.2), .string aa, .string ab, .string va1, .string vb, B], NV x, .int .i64 p] w fun e w' => e = .returned (.bool (rightB lo hi x p)) ∧ Below w.heap.size w w' := by
  have HSH := fun W h' => short_in x.1 x.2 W hx h'
  have HC1 := fun W h' => rcmp_in x.1 x.2 lo.1 lo.2 W hx.r h1 h'
  have HC2 := fun W h' => rcmp_in x.1 x.2 hi.1 hi.2 W hx.r h2 h'
  have hBc : B.cells = #[B] := by obtain ⟨fn, a, b, rfl | rfl⟩ := hB <;> rfl
  unfold rightB
  unfold RV at HSH HC1 HC2
  unfold NV
  clear h1 h2 hx
  generalize cmpQ x.1 x.2 lo.1 lo.2 = c1 at *
  generalize cmpQ x.1 x.2 hi.1 hi.2 = c2 at *
  generalize str x.1 = xa at *
  generalize str x.2 = xb at *
  generalize str lo.1 = la at *
  generalize str lo.2 = lb at *
  generalize str hi.1 = ha at *
  generalize str hi.2 = hb at *
  have HSH := Lib.hid HSH
  have HC1 := Lib.hid HC1
  have HC2 := Lib.hid HC2
  have bn := belowNew w (.cells #[.string la, .string lb, .string ha, .string hb, .string aa, .string ab, .string va1, .string vb, B] 57)
  have bn2 := belowNew (w.alloc (.cells #[.string la, .string lb, .string ha, .string hb, .string aa, .string ab, .string va1, .string vb, B] 57)) (.cells #[.string xa, .string xb] 25)
  have k0 := (R9.new w 57 (.string la) (.string lb) (.string ha) (.string hb) (.string aa) (.string ab) (.string va1) (.string vb) B).below bn2
  have m0 := RC.new (w.alloc (.cells #[.string la, .string lb, .string ha, .string hb, .string aa, .string ab, .string va1, .string vb, B] 57)) 25 (.string xa) (.string xb)
  rw [sizeNew] at m0
  have b0 := bn.trans (bn2.mono bn.size)
  have x0 := m0.c00
  have x1 := m0.c01
  by_cases hp0 : 0 ≤ p
  · by_cases hp12 : p ≤ 12
    · by_cases hc1 : 0 ≤ c1
      · have d1 : decide (0 ≤ c1) = true := decide_eq_true hc1
        have d2 : decide (0 ≤ p) = true := decide_eq_true hp0
        have d3 : decide (p ≤ 12) = true := decide_eq_true hp12
        rw [d1, d2, d3, Bool.true_and, Bool.true_and, Bool.true_and]
        clear d2 d3
        go_enter Tryz.func53, Tryz.ntmps53
        go_wp2_with (first
          | (go_at_call 99; refine (HSH.out _ (ht.below b0)).mono ?_; rintro e w1 ⟨rfl, hb1⟩; have k1 := k0.below hb1; have m1 := m0.below hb1; have b1 := b0.trans (hb1.mono b0.size); have x0 := m1.c00; have x1 := m1.c01; have x2 := k1.c0; have x3 := k1.c1)
          | (have HA := HC1; go_at_call 17; refine (HA.out _ (ht.below b1)).mono ?_; clear HC1 HA; rintro e w2 ⟨rfl, hb2⟩; have k2 := k1.below hb2; have m2 := m1.below hb2; have b2 := b1.trans (hb2.mono b1.size); have x0 := m2.c00; have x1 := m2.c01; have x2 := k2.c2; have x3 := k2.c3)
          | (go_at_call 17; refine (HC2.out _ (ht.below b2)).mono ?_; rintro e w3 ⟨rfl, hb3⟩; have b3 := b2.trans (hb3.mono b2.size)))
        go_ret
        exact ⟨rfl, b3⟩
      · have d1 : decide (0 ≤ c1) = false := decide_eq_false hc1
        have d2 : decide (0 ≤ p) = true := decide_eq_true hp0
        have d3 : decide (p ≤ 12) = true := decide_eq_true hp12
        rw [d1, d2, d3, Bool.true_and, Bool.true_and, Bool.false_and]
        clear d2 d3
        go_enter Tryz.func53, Tryz.ntmps53
        go_wp2_with (first
          | (go_at_call 99; refine (HSH.out _ (ht.below b0)).mono ?_; rintro e w1 ⟨rfl, hb1⟩; have k1 := k0.below hb1; have m1 := m0.below hb1; have b1 := b0.trans (hb1.mono b0.size); have x0 := m1.c00; have x1 := m1.c01; have x2 := k1.c0; have x3 := k1.c1)
          | (go_at_call 17; refine (HC1.out _ (ht.below b1)).mono ?_; rintro e w2 ⟨rfl, hb2⟩; have b2 := b1.trans (hb2.mono b1.size)))
        go_ret
        exact ⟨rfl, b2⟩
    · have d2 : decide (0 ≤ p) = true := decide_eq_true hp0
      have d3 : decide (p ≤ 12) = false := decide_eq_false hp12
      rw [d2, d3, Bool.true_and, Bool.false_and, Bool.false_and]
      clear d2
      go_enter Tryz.func53, Tryz.ntmps53
      go_wp2_with (first
        | (go_at_call 99; refine (HSH.out _ (ht.below b0)).mono ?_; rintro e w1 ⟨rfl, hb1⟩; have b1 := b0.trans (hb1.mono b0.size)))
      go_ret
      exact ⟨rfl, b1⟩
  · have d2 : decide (0 ≤ p) = false := decide_eq_false hp0
    rw [d2, Bool.false_and, Bool.false_and, Bool.false_and]
    go_enter Tryz.func53, Tryz.ntmps53
    go_wp2_with (first
      | (go_at_call 99; refine (HSH.out _ (ht.below b0)).mono ?_; rintro e w1 ⟨rfl, hb1⟩; have b1 := b0.trans (hb1.mono b0.size)))
    go_ret
    exact ⟨rfl, b1⟩
theorem right_in (lo hi at_ va x : Int × Int) (B : Value) (p : Int) (w : World) (hB : ∃ fn a b, B = .func fn a b ∨ B = .nilFunc) (h1 : IsQ lo) (h2 : IsQ hi) (hx : ShortQ x.1 x.2) (hp1 : -1000000000000000000 ≤ p) (hp2 : p ≤ 1000000000000000000) (ht : TabOf w) :
    Calls Tryz.prog 53 #[FnV lo hi at_ va B, NV x, .int .i64 p] w fun e w' => e = .returned (.bool (rightB lo hi x p)) ∧ Below w.heap.size w w' :=
  right_raw lo hi x (str at_.1) (str at_.2) (str va.1) (str va.2) B p w hB h1 h2 hx hp1 hp2 ht

theorem ratio_in (s t : ByteArray) (w : World) : Calls Tryz.prog 37 #[.string s, .string t] w fun e w' => e = .returned (.agg #[.string s, .string t]) ∧ Below w.heap.size w w' := by
  go_enter Tryz.func37, Tryz.ntmps37
  go_wp2
  refine bodyPost_ret_by (v := .agg #[.string s, .string t]) (by simp [results, Tryz.f37, go_sem]) rfl ⟨rfl, belowNew w _⟩
end Go.Proofs.YtppbhnhmaocdnaaGreatDoor
