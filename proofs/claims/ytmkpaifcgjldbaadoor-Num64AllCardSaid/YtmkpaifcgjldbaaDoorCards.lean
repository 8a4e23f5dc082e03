/-
  DERIVED. GIVEN WITH THE SEED: THE CARDS: each row of YtmkpaifcgjldbaaDoorRows.lean that lists a variable, with what it lists TIED to the program's text (the seventh form; the later family's looks); each row that meets fmt, with fmt's text TOLD by the authors' own Lean function (tested against real Go, not proved from fmt's source: count such statements apart). THE CARD IS WHAT COUNTS. Prove the row's statement (the work); the ties are given (YtmkpaifcgjldbaaDoorTie.lean); close each card by the builder's one call (the guide's Derived/Test/ToyasCard.lean, 'card_holds'). Laid BY PROGRAM, IN A SANDBOX (cutbox-door.mjs). By AI agents, Wed Nov 11 2026. No macro, syntax, notation, axiom, sorry.
-/
import Derived.Test.YtmkpaifcgjldbaaDoorRows
import GoSem.ClaimSeven
namespace Go.Proofs.YtmkpaifcgjldbaaDoor
namespace Rows

/-- THE TIED CARD OF 'gangwaylaw4.Num64Uns'. -/
def num64UnsCard : Claim7 := { stood := { row := num64UnsRow, standIns := [], harness := (true, "1f1ae5be14fb52a0164c47c0c74a48ba5e9b2caf0db2e9a75659513b36294a55"), looks := false }, kinds := [], alts := [], laidByText := true, laidKinds := [.data], laidTests := true, laidLooks := .later }
def Num64UnsCardSaid : Prop := Claim7.holds Tryd.pinned (.plain (OpenSpec.ofChange num64UnsSpec)) num64UnsCard

/-- THE TIED CARD OF 'gangwaylaw4.Num64All'. -/
def num64AllCard : Claim7 := { stood := { row := num64AllRow, standIns := [], harness := (true, "1f1ae5be14fb52a0164c47c0c74a48ba5e9b2caf0db2e9a75659513b36294a55"), looks := false }, kinds := [], alts := [], laidByText := true, laidKinds := [.data], laidTests := true, laidLooks := .later }
def Num64AllCardSaid : Prop := Claim7.holds Tryd.pinned (.plain (OpenSpec.ofChange num64AllSpec)) num64AllCard

/-- THE SECOND FORM's CARD OF 'gangwaylaw4.Num64Uns'. -/
def num64UnsUptoCard : Claim7 := { stood := { row := num64UnsUptoRow, standIns := [], harness := (true, "1f1ae5be14fb52a0164c47c0c74a48ba5e9b2caf0db2e9a75659513b36294a55"), looks := false }, kinds := [], alts := [], laidByText := true, laidKinds := [.data], laidTests := true, laidLooks := .later }
def Num64UnsUptoCardSaid : Prop := Claim7.holds Tryd.pinned (.plain (OpenSpec.upto num64UnsSpec)) num64UnsUptoCard

/-- THE SECOND FORM's CARD OF 'gangwaylaw4.Num64All'. -/
def num64AllUptoCard : Claim7 := { stood := { row := num64AllUptoRow, standIns := [], harness := (true, "1f1ae5be14fb52a0164c47c0c74a48ba5e9b2caf0db2e9a75659513b36294a55"), looks := false }, kinds := [], alts := [], laidByText := true, laidKinds := [.data], laidTests := true, laidLooks := .later }
def Num64AllUptoCardSaid : Prop := Claim7.holds Tryd.pinned (.plain (OpenSpec.upto num64AllSpec)) num64AllUptoCard
end Rows
end Go.Proofs.YtmkpaifcgjldbaaDoor
