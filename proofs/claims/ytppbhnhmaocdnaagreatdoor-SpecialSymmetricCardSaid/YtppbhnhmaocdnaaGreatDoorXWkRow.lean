/- From a row's conditions to the walks: the listed table; arrays of two integers. -/
import Derived.Test.YtppbhnhmaocdnaaGreatDoorB26
import Derived.Test.YtppbhnhmaocdnaaGreatDoorRows
import Derived.ProofKit
import Derived.Carry
import Derived.Lay
import Derived.OpenShut
import Derived.Lib.LaidU8
import Derived.LaidMore
import Derived.Stop.Joined
set_option linter.unusedVariables false
set_option linter.unusedSimpArgs false
namespace Go.Proofs.YtppbhnhmaocdnaaGreatDoor
open Go.RowKit Go.Shelf Go.ChangeShapes Go.WideShapes Go.ChangeAt

def laidL : List (String × DataW Unit) := Rows.specialBoundsRow.laid
theorem laid_plain (W : World) (h : laidMetH Tryz.prog laidL W) : laidMet Tryz.prog laidL W := by
  rw [MakeChecks.laidMetH_plain _ _ _ (by kernel_rfl)] at h
  exact h
theorem own : ownKnob Tryz.prog.godebug = none := by kernel_rfl
theorem laidOut : laidOutB Tryz.prog = true := by kernel_rfl
theorem tabOf_of (W : World) (h : laidMetH Tryz.prog laidL W) : TabOf W := by
  have h1 := Lib.laidMet.reads (laid_plain W h) (n := "internal/strconv.uint64pow10") (d := Rows.laid_internal_strconv_uint64pow10) (by unfold laidL Rows.specialBoundsRow; simp)
  obtain ⟨g, t, cs, fuel, p, e1, e2, e3, e4⟩ := h1
  obtain rfl := Option.some.inj ((show Tryz.prog.globalNamed "internal/strconv.uint64pow10" = some 4 by kernel_rfl).symm.trans e1)
  obtain rfl := Option.some.inj ((show (Tryz.prog.globals[4]?).map (·.type) = some 213 by kernel_rfl).symm.trans e2)
  have hd : (Rows.laid_internal_strconv_uint64pow10 : DataW Unit) = Lib.tabData .u64 Lib.pow10Tab := by kernel_rfl
  rw [hd] at e4
  have := Lib.cells_of_tab (show Tryz.prog.underlying 213 = some (.array 20 164) by kernel_rfl) (show Tryz.prog.underlying 164 = some (.int .u64) by kernel_rfl) (by kernel_rfl) (by kernel_rfl) e4
  unfold TabOf Lib.TabIs
  rw [e3, ← this]
set_option maxRecDepth 100000 in
theorem open_pair {W : World} {base b0 : Nat} {sp : Nat → Bool} {held : Bool} {H : Type} {enc : TypeId × Value → H} {r : Reach} {v : Value} {d : DataW H} {ps : List MemPlace}
    (hv : Value.okWide Tryz.prog W r b0 22 v) (h : DataW.Trod enc Tryz.prog W base sp held 22 v d ps) :
    ∃ a b : Int, v = .agg #[.int .i64 a, .int .i64 b] ∧ ps = [] ∧ (Lit.int .i64 a).wf = true ∧ (Lit.int .i64 b).wf = true := by
  have hu : Tryz.prog.underlying 22 = some (.array 2 3) := by kernel_rfl
  have hi : Tryz.prog.underlying 3 = some (.int .i64) := by kernel_rfl
  have hc : Tryz.prog.cellsOf 3 = 1 := by kernel_rfl
  have hc2 : Tryz.prog.cellsOf 22 = 2 := by kernel_rfl
  simp only [Value.okWide, hu] at hv
  obtain ⟨cs, rfl, h2, _⟩ := hv
  obtain ⟨fuel, hf⟩ := h
  obtain ⟨xs, m, -, hx, hl, hn, hel⟩ := DataW.trod_array hu hf
  rw [hc2] at hl h2
  obtain ⟨l⟩ := cs
  simp only [Value.cells] at hl hel
  match l, hl with
  | [x0, x1], _ =>
    have e0 := hel 0 (by omega)
    have e1 := hel 1 (by omega)
    rw [hc] at e0 e1
    match xs, hn with
    | [y0, y1], _ =>
      obtain ⟨a, ea, ea2, wa⟩ := DataW.trod_int hi (show DataW.trod _ Tryz.prog W base sp held m 3 _ = some y0 from e0)
      obtain ⟨b, eb, eb2, wb⟩ := DataW.trod_int hi (show DataW.trod _ Tryz.prog W base sp held m 3 _ = some y1 from e1)
      simp at ea eb
      subst ea; subst eb
      refine ⟨a, b, rfl, ?_, wa, wb⟩
      have := congrArg Prod.snd hx
      simp only [List.flatMap_cons, List.flatMap_nil, ea2, eb2] at this
      simpa using this
theorem wf64 {n : Int} (h : (Lit.int .i64 n).wf = true) : -9223372036854775808 ≤ n ∧ n ≤ 9223372036854775807 := by
  simpa [Lit.wf, IntKind.min, IntKind.max, IntKind.signed, IntKind.bits] using h
end Go.Proofs.YtppbhnhmaocdnaaGreatDoor
