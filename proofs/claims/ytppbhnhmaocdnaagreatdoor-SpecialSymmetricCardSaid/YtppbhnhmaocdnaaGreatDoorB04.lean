/- A range over a function that never ends by itself: the body leaves it by a break. Of no program. -/
import Derived.Test.YtppbhnhmaocdnaaGreatDoorB02
import Derived.Test.YtppbhnhmaocdnaaGreatDoorB03
set_option linter.unusedVariables false
set_option linter.unusedSimpArgs false
namespace Go.Proofs.YtppbhnhmaocdnaaGreatDoor
open Go.RowKit

def untilPost (B : Nat) (Kp : World → World → Prop) (I Ix : Nat → World → Prop) (id k : Nat) (W : World) : Exit → Act → World → Prop
  | .normal, _, W' => KeepsFrom B W W' ∧ Kp W W' ∧ I (k + 1) W'
  | .exit j, _, W' => j = id ∧ KeepsFrom B W W' ∧ Ix k W'
  | _, _, _ => False

def Endless (n : Nat) (P : Program) (gf : Nat) (lb : Array Value) (encs : Nat → Array Value) (Kp : World → World → Prop) (I : Nat → World → Prop) (w : World) : Prop :=
  ∀ (l : Nat) (J Jx : Nat → World → Prop) (W : World), Below w.heap.size w W → (∀ k A B, J k A → Below W.heap.size A B → J k B) → (∀ k A, J k A → I k A) →
    (∀ k A, J k A → YieldAt Fence.wide (n - 1) P l (encs k) A fun e B => (e = .returned (.bool true) ∧ J (k + 1) B ∧ Kp A B) ∨ (e = .returned (.bool false) ∧ Jx k B)) →
    J 0 W → CallsIn Fence.wide n P gf (#[.func (.yield l) #[] #[]] ++ lb) W fun e B => (∃ v, e = .returned v) ∧ ∃ k, Jx k B

theorem wpIn_until {P : Program} {n : Nat} {g : Operand} {ps : Array Tmp} {assign body : Code} {Q : Exit → Act → World → Prop} {a : Act} {w : World} {id : Nat}
    (h1 : 1 ≤ n) {gf : Nat} {lb : Array Value} (hg : a.eval g = .func (.func gf) #[] lb) (eg : ∀ args w, (callFunc gf args).run P w = .ok (.enter gf args) w)
    (encs : Nat → Array Value) (obj : Nat → Obj) (Kp : World → World → Prop) (hKt : ∀ {A B C : World}, Kp A B → Kp B C → Kp A C)
    (hKb : ∀ (W : World) (l : Nat) (o o' : Obj), w.heap.size ≤ l → W.heap[l]? = some o → o.isCells = false → o.isWalk = false → Kp W (W.putObj l o')) (hKa : ∀ (W : World) (o : Obj), w.heap.size ≤ W.heap.size → Kp W (W.alloc o))
    (hps : ∀ k, (encs k).size = ps.size) (I Ix : Nat → World → Prop) (hI : ∀ k A B, I k A → Below w.heap.size A B → I k B) (hIx : ∀ k A B, Ix k A → Below w.heap.size A B → Ix k B) (h0 : I 0 w)
    (hit : Endless (n - 1) P gf lb encs Kp I w) (a₁ : Nat → Nat → Act)
    (hassign : ∀ (l k : Nat) (W : World) (K : Act → World → Prop), K (a₁ k W.heap.size) (W.alloc (obj k)) →
      assign.wpIn (Fence.wide.inRound l) (n - 1 - 1) P (Exit.then K (fun _ _ _ => False)) { tmps := (ps.zip (encs k)).foldl (fun t (p, v) => t.setIfInBounds p v) a.tmps, defers := [] } W)
    (hbody : ∀ (l k D : Nat) (W : World), I k W → w.heap.size + 2 ≤ D → W.heap[D]? = some (obj k) → body.wpIn (Fence.wide.inRound l) (n - 1 - 1) P (untilPost w.heap.size Kp I Ix id k W) (a₁ k D) W)
    (hstop : ∀ (D k : Nat) (W : World), w.heap.size ≤ D → Ix k W → W.heap[D]? = some (.deferred (some [])) → (Code.exit id).wpIn Fence.wide n P Q { a with defers := { target := .collected D, args := #[] } :: a.defers } W) :
    (Code.rangeFunc g ps assign body).wpIn Fence.wide n P Q a w := by
  refine wpIn_rangeFunc fun fn hfn => ?_
  obtain ⟨rec, hrec⟩ : ∃ rec : LoopState → Option Code → Loop, rec = fun st pe => { state := st, pending := pe, fn, tmps := a.tmps, params := ps, assign, body, defers := w.heap.size } := ⟨_, rfl⟩
  obtain ⟨W1, hW1⟩ : ∃ W1, (w.alloc (.deferred (some []))).alloc (.loop (rec .ready none)) = W1 := ⟨_, rfl⟩
  have hs1 : W1.heap.size = w.heap.size + 2 := by rw [← hW1]; simp
  have hL1 : W1.heap[w.heap.size + 1]? = some (.loop (rec .ready none)) := by
    rw [← hW1]; have := World.alloc_heap_new (w.alloc (.deferred (some []))) (.loop (rec .ready none)); rwa [World.size_alloc] at this
  have hK1 : W1.heap[w.heap.size]? = some (.deferred (some [])) := by
    rw [← hW1]; exact (Below.heap_alloc _ _ _ (by simp)).trans (World.alloc_heap_new w _)
  have hb1 : Below w.heap.size w W1 := by rw [← hW1]; exact ((Below.refl _ w).alloc (Nat.le_refl _) _).alloc (by simp) _
  have put : ∀ (A : World) (o : Obj), Below w.heap.size A (A.putObj (w.heap.size + 1) o) := fun A o => ⟨rfl, rfl, rfl, by simp, fun k hk => World.putObj_heap_other (by omega)⟩
  refine ⟨w.heap.size + 1, [{ target := .collected w.heap.size, args := #[] }], W1, { target := .fn (.func gf) lb, args := #[.func (.yield (w.heap.size + 1)) #[] #[]] }, W1, gf,
    #[.func (.yield (w.heap.size + 1)) #[] #[]] ++ lb, W1, ?_, ?_, fun _ _ => trivial, ?_, fun _ => h1, ?_⟩
  · rw [← hW1, hrec]; exact run_enterLoop_outer _ _ _ _ _
  · simp only [resolve, hg]
    simp [go_sem]
  · simp [invoke, go_sem, eg]
  refine (hit (w.heap.size + 1)
    (fun k W => I k W ∧ W.heap[w.heap.size + 1]? = some (.loop (rec .ready none)) ∧ W.heap[w.heap.size]? = some (.deferred (some [])))
    (fun k W => Ix k W ∧ W.heap[w.heap.size + 1]? = some (.loop (rec .done (some (.exit id)))) ∧ W.heap[w.heap.size]? = some (.deferred (some [])))
    W1 hb1 ?_ (fun k A h => h.1) ?_ ⟨hI _ _ _ h0 hb1, hL1, hK1⟩).mono ?_
  · rintro k A B ⟨x, y, z⟩ hb
    rw [hs1] at hb
    exact ⟨hI _ _ _ x (hb.mono (by omega)), (hb.block _ (by omega)).trans y, (hb.block _ (by omega)).trans z⟩
  · rintro k W ⟨hi, hl, hk⟩
    have hlt : w.heap.size + 1 < W.heap.size := (Array.getElem?_eq_some_iff.1 hl).1
    have hy := run_yield (P := P) (args := encs k) hl (by rw [hrec]; exact hps k)
    rw [hrec] at hy
    obtain ⟨V, hV⟩ : ∃ V, V = W.alloc (obj k) := ⟨_, rfl⟩
    have bV : Below W.heap.size W V := by rw [hV]; exact belowNew W _
    have hlV : V.heap[w.heap.size + 1]? = some (.loop (rec .ready none)) := (bV.block _ hlt).trans hl
    have hkV : V.heap[w.heap.size]? = some (.deferred (some [])) := (bV.block _ (by omega)).trans hk
    have hoV : V.heap[W.heap.size]? = some (obj k) := by rw [hV]; exact World.alloc_heap_new W _
    have hltV : w.heap.size + 1 < V.heap.size := Nat.lt_of_lt_of_le hlt bV.size
    refine ⟨fn, _, assign, body, hy, roundIn_of_wpIn hfn (hassign _ k W _ ⟨_, run_beginRound (w := W.alloc (obj k)) (by rw [← hV]; exact hlV) (by rw [hrec]), ?_⟩)⟩
    rw [← hV]
    obtain ⟨U, hU⟩ : ∃ U, U = V.putObj (w.heap.size + 1) (.loop { rec .ready none with state := .busy }) := ⟨_, rfl⟩
    have hlU : U.heap[w.heap.size + 1]? = some (.loop { rec .ready none with state := .busy }) := by rw [hU]; exact World.putObj_heap_same hltV
    have hkU : U.heap[w.heap.size]? = some (.deferred (some [])) := by rw [hU]; exact (World.putObj_heap_other (by omega)).trans hkV
    have hoU : U.heap[W.heap.size]? = some (obj k) := by rw [hU]; exact (World.putObj_heap_other (by omega)).trans hoV
    have hKU : Kp W U := by
      have h1 : Kp W V := by rw [hV]; exact hKa W _ (by omega)
      have h2 : Kp V U := by rw [hU]; exact hKb _ _ _ _ (by omega) hlV rfl rfl
      exact hKt h1 h2
    have hIU : I k U := by
      rw [hU]; exact hI _ _ _ (hI _ _ _ hi (bV.mono (by omega))) (put _ _)
    rw [← hU]
    refine wpIn_mono (hbody _ k W.heap.size U hIU (by omega) hoU) ?_
    have fin : ∀ (jump : Option Code) (W3 : World), KeepsFrom w.heap.size U W3 →
        (Instr.endRound (w.heap.size + 1) jump).run P W3 = .ok (.bool jump.isNone) (W3.putObj (w.heap.size + 1) (.loop (rec (if jump.isNone then .ready else .done) jump))) ∧
        W3.heap[w.heap.size + 1]? = some (.loop { rec .ready none with state := .busy }) ∧
        (W3.putObj (w.heap.size + 1) (.loop (rec (if jump.isNone then .ready else .done) jump))).heap[w.heap.size + 1]? = some (.loop (rec (if jump.isNone then .ready else .done) jump)) ∧
        (W3.putObj (w.heap.size + 1) (.loop (rec (if jump.isNone then .ready else .done) jump))).heap[w.heap.size]? = some (.deferred (some [])) := fun jump W3 hk3 => by
      have hl3 := hk3.same _ _ (by omega) hlU rfl
      have := run_endRound (P := P) jump hl3
      rw [hrec] at this ⊢
      exact ⟨this, by rw [hrec] at hl3; exact hl3, World.putObj_heap_same (Array.getElem?_eq_some_iff.1 hl3).1, (World.putObj_heap_other (by omega)).trans (hk3.same _ _ (Nat.le_refl _) hkU rfl)⟩
    rintro e a3 W3 hp
    cases e with
    | normal =>
      obtain ⟨hk3, hkp3, hi3⟩ := hp
      obtain ⟨hr, hl3, hl4, hk4⟩ := fin none W3 hk3
      exact ⟨_, _, hr, .inl ⟨rfl, ⟨hI _ _ _ hi3 (put _ _), hl4, hk4⟩, hKt (hKt hKU hkp3) (hKb _ _ _ _ (by omega) hl3 rfl rfl)⟩⟩
    | exit j =>
      obtain ⟨rfl, hk3, hi3⟩ := hp
      obtain ⟨hr, hl3, hl4, hk4⟩ := fin (some (.exit j)) W3 hk3
      exact ⟨_, _, hr, .inr ⟨rfl, hIx _ _ _ hi3 (put _ _), hl4, hk4⟩⟩
    | ret => exact hp.elim
    | goto t => exact hp.elim
    | panic ch => exact hp.elim
    | outgrown => exact hp.elim
  · rintro e W2 ⟨⟨v, rfl⟩, k, hi, hl, hk⟩
    exact ⟨some (.exit id), _, by have := run_endLoop (P := P) hl (by rw [hrec]; simp); rw [hrec] at this; exact this, hstop _ k _ (Nat.le_refl _) (hIx _ _ _ hi (put _ _)) ((World.putObj_heap_other (by omega)).trans hk)⟩
end Go.Proofs.YtppbhnhmaocdnaaGreatDoor
