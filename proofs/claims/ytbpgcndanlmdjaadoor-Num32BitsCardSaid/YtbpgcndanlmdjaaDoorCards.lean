/-
  DERIVED. GIVEN WITH THE SEED: THE CARDS: each row of YtbpgcndanlmdjaaDoorRows.lean that lists a variable, with what it lists TIED to the program's text (the seventh form; the later family's looks); each row that meets fmt, with fmt's text TOLD by the authors' own Lean function (tested against real Go, not proved from fmt's source: count such statements apart). THE CARD IS WHAT COUNTS. Prove the row's statement (the work); the ties are given (YtbpgcndanlmdjaaDoorTie.lean); close each card by the builder's one call (the guide's Derived/Test/ToyasCard.lean, 'card_holds'). Laid BY PROGRAM, IN A SANDBOX (cutbox-door.mjs). By AI agents, Wed Nov 11 2026. No macro, syntax, notation, axiom, sorry.
-/
import Derived.Test.YtbpgcndanlmdjaaDoorRows
import GoSem.ClaimSeven
namespace Go.Proofs.YtbpgcndanlmdjaaDoor
namespace Rows

/-- THE TIED CARD OF 'gangwaylaw3.Num32Uns'. -/
def num32UnsCard : Claim7 := { stood := { row := num32UnsRow, standIns := [], harness := (true, "4146298fa4b0902c0725e5949033b50901c86ca638e7a277537e7731aef39e44"), looks := false }, kinds := [], alts := [], laidByText := true, laidKinds := [.data], laidTests := true, laidLooks := .later }
def Num32UnsCardSaid : Prop := Claim7.holds Tryd.pinned (.plain (OpenSpec.ofChange num32UnsSpec)) num32UnsCard

/-- THE TIED CARD OF 'gangwaylaw3.Num32All'. -/
def num32AllCard : Claim7 := { stood := { row := num32AllRow, standIns := [], harness := (true, "4146298fa4b0902c0725e5949033b50901c86ca638e7a277537e7731aef39e44"), looks := false }, kinds := [], alts := [], laidByText := true, laidKinds := [.data], laidTests := true, laidLooks := .later }
def Num32AllCardSaid : Prop := Claim7.holds Tryd.pinned (.plain (OpenSpec.ofChange num32AllSpec)) num32AllCard

/-- THE TIED CARD OF 'gangwaylaw3.Num32Bits'. -/
def num32BitsCard : Claim7 := { stood := { row := num32BitsRow, standIns := [], harness := (true, "4146298fa4b0902c0725e5949033b50901c86ca638e7a277537e7731aef39e44"), looks := false }, kinds := [], alts := [], laidByText := true, laidKinds := [.data], laidTests := true, laidLooks := .later }
def Num32BitsCardSaid : Prop := Claim7.holds Tryd.pinned (.plain (OpenSpec.ofChange num32BitsSpec)) num32BitsCard

/-- THE SECOND FORM's CARD OF 'gangwaylaw3.Num32Uns'. -/
def num32UnsUptoCard : Claim7 := { stood := { row := num32UnsUptoRow, standIns := [], harness := (true, "4146298fa4b0902c0725e5949033b50901c86ca638e7a277537e7731aef39e44"), looks := false }, kinds := [], alts := [], laidByText := true, laidKinds := [.data], laidTests := true, laidLooks := .later }
def Num32UnsUptoCardSaid : Prop := Claim7.holds Tryd.pinned (.plain (OpenSpec.upto num32UnsSpec)) num32UnsUptoCard

/-- THE SECOND FORM's CARD OF 'gangwaylaw3.Num32All'. -/
def num32AllUptoCard : Claim7 := { stood := { row := num32AllUptoRow, standIns := [], harness := (true, "4146298fa4b0902c0725e5949033b50901c86ca638e7a277537e7731aef39e44"), looks := false }, kinds := [], alts := [], laidByText := true, laidKinds := [.data], laidTests := true, laidLooks := .later }
def Num32AllUptoCardSaid : Prop := Claim7.holds Tryd.pinned (.plain (OpenSpec.upto num32AllSpec)) num32AllUptoCard

/-- THE SECOND FORM's CARD OF 'gangwaylaw3.Num32Bits'. -/
def num32BitsUptoCard : Claim7 := { stood := { row := num32BitsUptoRow, standIns := [], harness := (true, "4146298fa4b0902c0725e5949033b50901c86ca638e7a277537e7731aef39e44"), looks := false }, kinds := [], alts := [], laidByText := true, laidKinds := [.data], laidTests := true, laidLooks := .later }
def Num32BitsUptoCardSaid : Prop := Claim7.holds Tryd.pinned (.plain (OpenSpec.upto num32BitsSpec)) num32BitsUptoCard
end Rows
end Go.Proofs.YtbpgcndanlmdjaaDoor
