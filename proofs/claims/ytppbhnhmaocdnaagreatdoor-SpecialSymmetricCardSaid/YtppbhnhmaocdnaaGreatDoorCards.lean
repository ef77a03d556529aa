/-
  DERIVED. GIVEN WITH THE SEED: THE CARDS: each row of YtppbhnhmaocdnaaGreatDoorRows.lean that lists a variable, with what it lists TIED to the program's text (the seventh form; the later family's looks); each row that meets fmt, with fmt's text TOLD by the authors' own Lean function (tested against real Go, not proved from fmt's source: count such statements apart). THE CARD IS WHAT COUNTS. Prove the row's statement (the work); the ties are given (YtppbhnhmaocdnaaGreatDoorTie.lean); close each card by the builder's one call (the guide's Derived/Test/ToyasCard.lean, 'card_holds'). Laid BY PROGRAM, IN A SANDBOX (cutbox-door.mjs). By AI agents, Wed Nov 11 2026. No macro, syntax, notation, axiom, sorry.
-/
import Derived.Test.YtppbhnhmaocdnaaGreatDoorRows
import GoSem.ClaimSeven
namespace Go.Proofs.YtppbhnhmaocdnaaGreatDoor
namespace Rows

/-- THE TIED CARD OF 'yardsticklaw06.SpecialBounds'. -/
def specialBoundsCard : Claim7 := { stood := { row := specialBoundsRow, standIns := [], harness := (true, "5281cddfe71f321fb108f8683e968b5a687d2bc64e1ad7fd8b05cc30727ec439"), looks := true }, kinds := [], alts := [], laidByText := true, laidKinds := [.data, .data, .data, .data, .sentinel, .sentinel, .sentinel, .pinned], laidTests := true, laidLooks := .later }
def SpecialBoundsCardSaid : Prop := Claim7.holds Tryz.pinned (.plain (OpenSpec.ofChange specialBoundsSpec)) specialBoundsCard

/-- THE TIED CARD OF 'yardsticklaw06.SpecialQuantile'. -/
def specialQuantileCard : Claim7 := { stood := { row := specialQuantileRow, standIns := [], harness := (true, "5281cddfe71f321fb108f8683e968b5a687d2bc64e1ad7fd8b05cc30727ec439"), looks := true }, kinds := [], alts := [], laidByText := true, laidKinds := [.data, .data, .data, .data, .sentinel, .sentinel, .sentinel, .pinned], laidTests := true, laidLooks := .later }
def SpecialQuantileCardSaid : Prop := Claim7.holds Tryz.pinned (.plain (OpenSpec.ofChange specialQuantileSpec)) specialQuantileCard

/-- THE TIED CARD OF 'yardsticklaw06.SpecialCells'. -/
def specialCellsCard : Claim7 := { stood := { row := specialCellsRow, standIns := [], harness := (true, "5281cddfe71f321fb108f8683e968b5a687d2bc64e1ad7fd8b05cc30727ec439"), looks := true }, kinds := [], alts := [], laidByText := true, laidKinds := [.data, .data, .data, .data, .sentinel, .sentinel, .sentinel, .pinned], laidTests := true, laidLooks := .later }
def SpecialCellsCardSaid : Prop := Claim7.holds Tryz.pinned (.plain (OpenSpec.ofChange specialCellsSpec)) specialCellsCard

/-- THE TIED CARD OF 'yardsticklaw06.SpecialSymmetric'. -/
def specialSymmetricCard : Claim7 := { stood := { row := specialSymmetricRow, standIns := [], harness := (true, "5281cddfe71f321fb108f8683e968b5a687d2bc64e1ad7fd8b05cc30727ec439"), looks := true }, kinds := [], alts := [], laidByText := true, laidKinds := [.data, .data, .data, .data, .sentinel, .sentinel, .sentinel, .pinned], laidTests := true, laidLooks := .later }
def SpecialSymmetricCardSaid : Prop := Claim7.holds Tryz.pinned (.plain (OpenSpec.ofChange specialSymmetricSpec)) specialSymmetricCard

/-- THE TIED CARD OF 'yardsticklaw06.SpecialTail'. -/
def specialTailCard : Claim7 := { stood := { row := specialTailRow, standIns := [], harness := (true, "5281cddfe71f321fb108f8683e968b5a687d2bc64e1ad7fd8b05cc30727ec439"), looks := true }, kinds := [], alts := [], laidByText := true, laidKinds := [.data, .data, .data, .data, .sentinel, .sentinel, .sentinel, .pinned], laidTests := true, laidLooks := .later }
def SpecialTailCardSaid : Prop := Claim7.holds Tryz.pinned (.plain (OpenSpec.ofChange specialTailSpec)) specialTailCard

/-- THE TIED CARD OF 'yardsticklaw06.SpecialExponential'. -/
def specialExponentialCard : Claim7 := { stood := { row := specialExponentialRow, standIns := [], harness := (true, "5281cddfe71f321fb108f8683e968b5a687d2bc64e1ad7fd8b05cc30727ec439"), looks := true }, kinds := [], alts := [], laidByText := true, laidKinds := [.data, .data, .data, .data, .sentinel, .sentinel, .sentinel, .pinned], laidTests := true, laidLooks := .later }
def SpecialExponentialCardSaid : Prop := Claim7.holds Tryz.pinned (.plain (OpenSpec.ofChange specialExponentialSpec)) specialExponentialCard

/-- THE SECOND FORM's CARD OF 'yardsticklaw06.SpecialBounds'. -/
def specialBoundsUptoCard : Claim7 := { stood := { row := specialBoundsUptoRow, standIns := [], harness := (true, "5281cddfe71f321fb108f8683e968b5a687d2bc64e1ad7fd8b05cc30727ec439"), looks := true }, kinds := [], alts := [], laidByText := true, laidKinds := [.data, .data, .data, .data, .sentinel, .sentinel, .sentinel, .pinned], laidTests := true, laidLooks := .later }
def SpecialBoundsUptoCardSaid : Prop := Claim7.holds Tryz.pinned (.plain (OpenSpec.upto specialBoundsSpec)) specialBoundsUptoCard

/-- THE SECOND FORM's CARD OF 'yardsticklaw06.SpecialQuantile'. -/
def specialQuantileUptoCard : Claim7 := { stood := { row := specialQuantileUptoRow, standIns := [], harness := (true, "5281cddfe71f321fb108f8683e968b5a687d2bc64e1ad7fd8b05cc30727ec439"), looks := true }, kinds := [], alts := [], laidByText := true, laidKinds := [.data, .data, .data, .data, .sentinel, .sentinel, .sentinel, .pinned], laidTests := true, laidLooks := .later }
def SpecialQuantileUptoCardSaid : Prop := Claim7.holds Tryz.pinned (.plain (OpenSpec.upto specialQuantileSpec)) specialQuantileUptoCard

/-- THE SECOND FORM's CARD OF 'yardsticklaw06.SpecialCells'. -/
def specialCellsUptoCard : Claim7 := { stood := { row := specialCellsUptoRow, standIns := [], harness := (true, "5281cddfe71f321fb108f8683e968b5a687d2bc64e1ad7fd8b05cc30727ec439"), looks := true }, kinds := [], alts := [], laidByText := true, laidKinds := [.data, .data, .data, .data, .sentinel, .sentinel, .sentinel, .pinned], laidTests := true, laidLooks := .later }
def SpecialCellsUptoCardSaid : Prop := Claim7.holds Tryz.pinned (.plain (OpenSpec.upto specialCellsSpec)) specialCellsUptoCard

/-- THE SECOND FORM's CARD OF 'yardsticklaw06.SpecialSymmetric'. -/
def specialSymmetricUptoCard : Claim7 := { stood := { row := specialSymmetricUptoRow, standIns := [], harness := (true, "5281cddfe71f321fb108f8683e968b5a687d2bc64e1ad7fd8b05cc30727ec439"), looks := true }, kinds := [], alts := [], laidByText := true, laidKinds := [.data, .data, .data, .data, .sentinel, .sentinel, .sentinel, .pinned], laidTests := true, laidLooks := .later }
def SpecialSymmetricUptoCardSaid : Prop := Claim7.holds Tryz.pinned (.plain (OpenSpec.upto specialSymmetricSpec)) specialSymmetricUptoCard

/-- THE SECOND FORM's CARD OF 'yardsticklaw06.SpecialTail'. -/
def specialTailUptoCard : Claim7 := { stood := { row := specialTailUptoRow, standIns := [], harness := (true, "5281cddfe71f321fb108f8683e968b5a687d2bc64e1ad7fd8b05cc30727ec439"), looks := true }, kinds := [], alts := [], laidByText := true, laidKinds := [.data, .data, .data, .data, .sentinel, .sentinel, .sentinel, .pinned], laidTests := true, laidLooks := .later }
def SpecialTailUptoCardSaid : Prop := Claim7.holds Tryz.pinned (.plain (OpenSpec.upto specialTailSpec)) specialTailUptoCard

/-- THE SECOND FORM's CARD OF 'yardsticklaw06.SpecialExponential'. -/
def specialExponentialUptoCard : Claim7 := { stood := { row := specialExponentialUptoRow, standIns := [], harness := (true, "5281cddfe71f321fb108f8683e968b5a687d2bc64e1ad7fd8b05cc30727ec439"), looks := true }, kinds := [], alts := [], laidByText := true, laidKinds := [.data, .data, .data, .data, .sentinel, .sentinel, .sentinel, .pinned], laidTests := true, laidLooks := .later }
def SpecialExponentialUptoCardSaid : Prop := Claim7.holds Tryz.pinned (.plain (OpenSpec.upto specialExponentialSpec)) specialExponentialUptoCard
end Rows
end Go.Proofs.YtppbhnhmaocdnaaGreatDoor
