/-
  No cell of these rows narrows 'for every input' (looked for: loops, veiled, ifaces, maps, wideKeys, modest, calm, conditions, laid).
  DERIVED. THE GIVEN ROWS OF THIS SEAT. 7 by the template 'for every input the law returns true; each argument reads behind the call as it read before'; 0 by the template 'total and deterministic' (their statements: YtmkpaifcgjldbaaTotals.lean).
  GIVEN WITH THE SEED: the statements are not yours to turn. If you find one false, say at which input.
  Laid BY PROGRAM, IN A SANDBOX (cutbox-rows.mjs): the forced cells as the released guide's own fill.sh prints them over the translation 0d206d3e03bee569… (all of the seat's roots in one cut). By AI agents, Wed Nov 11 2026. No macro, syntax, notation, axiom, sorry.
-/
import Derived.Test.YtmkpaifcgjldbaaChecked
import GoSem.Claim
import GoSem.ClaimJoined
import GoSem.ClaimMapViews
import Derived.JoinedTies
import Derived.KernelRfl
namespace Go.Proofs.Ytmkpaifcgjldbaa
/- THE CELL 'sum', in the pinned program and in every row, IS THE sha256 OF THE DUMP (.gsa) THAT YtmkpaifcgjldbaaProg.lean LOADS. Nothing in Lean hashes anything: it is a label: what it is worth is what the hold of that sum in a sandbox is worth. -/
noncomputable def Try.pinned : Pinned := { name := "ytmkpaifcgjldbaa", sum := "0d206d3e03bee5695d169ce73c57c92aad7f16b2728d7937c4aa2756d5ecdd36", checked := Try.checked }
namespace Rows
def none {H : Type} : Left H := { results := [], args := [] }

/-- 'gangwaylaw4.Num64Bins': WHATEVER THE INPUT: true; the input reads as it did. -/
def num64BinsSpec : ChangeSpec := { name := "num64Bins", fn := fun _ => fun
  | [d] => { results := [.lit (.bool true)], args := [d] }
  | _ => none }
def num64BinsRow : OpenClaim := { program := "ytmkpaifcgjldbaa", sum := "0d206d3e03bee5695d169ce73c57c92aad7f16b2728d7937c4aa2756d5ecdd36", func := "gangway/gangwaylaw4.Num64Bins", spec := "num64Bins", unfollowed := true, recurses := true, apart := false }
def Num64BinsSaid : Prop := num64BinsRow.holds Try.pinned (OpenSpec.ofChange num64BinsSpec)

/-- ITS FALSE NEIGHBOUR: 'it returns false'. Refute it at one input. -/
def num64BinsWrong : ChangeSpec := { name := "num64Bins", fn := fun _ => fun
  | [d] => { results := [.lit (.bool false)], args := [d] }
  | _ => none }
def Num64BinsWrongFalsely : Prop := num64BinsRow.holds Try.pinned (OpenSpec.ofChange num64BinsWrong)

/-- 'gangwaylaw4.Num64Laws': WHATEVER THE INPUT: true; the input reads as it did. -/
def num64LawsSpec : ChangeSpec := { name := "num64Laws", fn := fun _ => fun
  | [d] => { results := [.lit (.bool true)], args := [d] }
  | _ => none }
def num64LawsRow : OpenClaim := { program := "ytmkpaifcgjldbaa", sum := "0d206d3e03bee5695d169ce73c57c92aad7f16b2728d7937c4aa2756d5ecdd36", func := "gangway/gangwaylaw4.Num64Laws", spec := "num64Laws", unfollowed := true, recurses := true, apart := false }
def Num64LawsSaid : Prop := num64LawsRow.holds Try.pinned (OpenSpec.ofChange num64LawsSpec)

/-- ITS FALSE NEIGHBOUR: 'it returns false'. Refute it at one input. -/
def num64LawsWrong : ChangeSpec := { name := "num64Laws", fn := fun _ => fun
  | [d] => { results := [.lit (.bool false)], args := [d] }
  | _ => none }
def Num64LawsWrongFalsely : Prop := num64LawsRow.holds Try.pinned (OpenSpec.ofChange num64LawsWrong)

/-- 'gangwaylaw4.Num64Tests': WHATEVER THE INPUT: true; the input reads as it did. -/
def num64TestsSpec : ChangeSpec := { name := "num64Tests", fn := fun _ => fun
  | [d] => { results := [.lit (.bool true)], args := [d] }
  | _ => none }
def num64TestsRow : OpenClaim := { program := "ytmkpaifcgjldbaa", sum := "0d206d3e03bee5695d169ce73c57c92aad7f16b2728d7937c4aa2756d5ecdd36", func := "gangway/gangwaylaw4.Num64Tests", spec := "num64Tests", unfollowed := true, recurses := true, apart := false }
def Num64TestsSaid : Prop := num64TestsRow.holds Try.pinned (OpenSpec.ofChange num64TestsSpec)

/-- ITS FALSE NEIGHBOUR: 'it returns false'. Refute it at one input. -/
def num64TestsWrong : ChangeSpec := { name := "num64Tests", fn := fun _ => fun
  | [d] => { results := [.lit (.bool false)], args := [d] }
  | _ => none }
def Num64TestsWrongFalsely : Prop := num64TestsRow.holds Try.pinned (OpenSpec.ofChange num64TestsWrong)

/-- 'gangwaylaw4.Num64Sums': WHATEVER THE INPUT: true; the input reads as it did. -/
def num64SumsSpec : ChangeSpec := { name := "num64Sums", fn := fun _ => fun
  | [d] => { results := [.lit (.bool true)], args := [d] }
  | _ => none }
def num64SumsRow : OpenClaim := { program := "ytmkpaifcgjldbaa", sum := "0d206d3e03bee5695d169ce73c57c92aad7f16b2728d7937c4aa2756d5ecdd36", func := "gangway/gangwaylaw4.Num64Sums", spec := "num64Sums", unfollowed := true, recurses := true, apart := false }
def Num64SumsSaid : Prop := num64SumsRow.holds Try.pinned (OpenSpec.ofChange num64SumsSpec)

/-- ITS FALSE NEIGHBOUR: 'it returns false'. Refute it at one input. -/
def num64SumsWrong : ChangeSpec := { name := "num64Sums", fn := fun _ => fun
  | [d] => { results := [.lit (.bool false)], args := [d] }
  | _ => none }
def Num64SumsWrongFalsely : Prop := num64SumsRow.holds Try.pinned (OpenSpec.ofChange num64SumsWrong)

/-- 'gangwaylaw4.Num64Shifts': WHATEVER THE INPUT: true; the input reads as it did. -/
def num64ShiftsSpec : ChangeSpec := { name := "num64Shifts", fn := fun _ => fun
  | [d] => { results := [.lit (.bool true)], args := [d] }
  | _ => none }
def num64ShiftsRow : OpenClaim := { program := "ytmkpaifcgjldbaa", sum := "0d206d3e03bee5695d169ce73c57c92aad7f16b2728d7937c4aa2756d5ecdd36", func := "gangway/gangwaylaw4.Num64Shifts", spec := "num64Shifts", unfollowed := true, recurses := true, apart := false }
def Num64ShiftsSaid : Prop := num64ShiftsRow.holds Try.pinned (OpenSpec.ofChange num64ShiftsSpec)

/-- ITS FALSE NEIGHBOUR: 'it returns false'. Refute it at one input. -/
def num64ShiftsWrong : ChangeSpec := { name := "num64Shifts", fn := fun _ => fun
  | [d] => { results := [.lit (.bool false)], args := [d] }
  | _ => none }
def Num64ShiftsWrongFalsely : Prop := num64ShiftsRow.holds Try.pinned (OpenSpec.ofChange num64ShiftsWrong)

/-- 'gangwaylaw4.Num64Convs': WHATEVER THE INPUT: true; the input reads as it did. -/
def num64ConvsSpec : ChangeSpec := { name := "num64Convs", fn := fun _ => fun
  | [d] => { results := [.lit (.bool true)], args := [d] }
  | _ => none }
def num64ConvsRow : OpenClaim := { program := "ytmkpaifcgjldbaa", sum := "0d206d3e03bee5695d169ce73c57c92aad7f16b2728d7937c4aa2756d5ecdd36", func := "gangway/gangwaylaw4.Num64Convs", spec := "num64Convs", unfollowed := true, recurses := true, apart := false }
def Num64ConvsSaid : Prop := num64ConvsRow.holds Try.pinned (OpenSpec.ofChange num64ConvsSpec)

/-- ITS FALSE NEIGHBOUR: 'it returns false'. Refute it at one input. -/
def num64ConvsWrong : ChangeSpec := { name := "num64Convs", fn := fun _ => fun
  | [d] => { results := [.lit (.bool false)], args := [d] }
  | _ => none }
def Num64ConvsWrongFalsely : Prop := num64ConvsRow.holds Try.pinned (OpenSpec.ofChange num64ConvsWrong)

/-- 'gangwaylaw4.Num64Low': WHATEVER THE INPUT: true; the input reads as it did. -/
def num64LowSpec : ChangeSpec := { name := "num64Low", fn := fun _ => fun
  | [d] => { results := [.lit (.bool true)], args := [d] }
  | _ => none }
def num64LowRow : OpenClaim := { program := "ytmkpaifcgjldbaa", sum := "0d206d3e03bee5695d169ce73c57c92aad7f16b2728d7937c4aa2756d5ecdd36", func := "gangway/gangwaylaw4.Num64Low", spec := "num64Low", unfollowed := true, recurses := true, apart := false }
def Num64LowSaid : Prop := num64LowRow.holds Try.pinned (OpenSpec.ofChange num64LowSpec)

/-- ITS FALSE NEIGHBOUR: 'it returns false'. Refute it at one input. -/
def num64LowWrong : ChangeSpec := { name := "num64Low", fn := fun _ => fun
  | [d] => { results := [.lit (.bool false)], args := [d] }
  | _ => none }
def Num64LowWrongFalsely : Prop := num64LowRow.holds Try.pinned (OpenSpec.ofChange num64LowWrong)

/- THE SECOND FORM. 'bulk': how many values and letters a reading holds, each counted each time it is reached (what is shared counts as often as it is met; a slice's spare places count too). A statement '..UptoSaid' is the law's where the arguments, and the package variables that the reading takes, are together of bulk at most 1048576: NARROWER than '..Said'. Prove '..Said' where nothing that the law and all that it calls make is longer than what came in: it says more and counts as full. Else prove '..UptoSaid'. A law counts once. -/
mutual
def uptoBulk {H : Type} : DataW H → Nat
  | .lit (.string bytes) => bytes.length + 1
  | .lit _ => 1
  | .nil => 1
  | .ptr d => uptoBulk d + 1
  | .slice elems spare => uptoBulkAll elems + uptoBulkAll spare + 1
  | .agg parts => uptoBulkAll parts + 1
  | .iface _ d => uptoBulk d + 1
  | .map entries => uptoBulkEntries entries + 1
  | .held _ => 1
def uptoBulkAll {H : Type} : List (DataW H) → Nat
  | [] => 0
  | d :: r => uptoBulk d + uptoBulkAll r
def uptoBulkEntries {H : Type} : List (Lit × DataW H) → Nat
  | [] => 0
  | x :: r => uptoBulkEntry x + uptoBulkEntries r
def uptoBulkEntry {H : Type} : Lit × DataW H → Nat
  | (.string bytes, d) => bytes.length + uptoBulk d + 1
  | (_, d) => uptoBulk d + 1
 end
def uptoSmall : (H : Type) → List (DataW H) → Bool := fun _ ds => decide (uptoBulkAll ds ≤ 1048576)
def OpenSpec.upto (s : _root_.Go.ChangeSpec) : _root_.Go.OpenSpec := { _root_.Go.OpenSpec.ofChange s with cond := some uptoSmall }

/-- 'gangwaylaw4.Num64Bins', WHERE WHAT IT READS IS OF BULK AT MOST 1048576: true; the input reads as it did. -/
def num64BinsUptoRow : OpenClaim := { program := "ytmkpaifcgjldbaa", sum := "0d206d3e03bee5695d169ce73c57c92aad7f16b2728d7937c4aa2756d5ecdd36", func := "gangway/gangwaylaw4.Num64Bins", spec := "num64Bins", unfollowed := true, recurses := true, apart := false, narrowed := true }
def Num64BinsUptoSaid : Prop := num64BinsUptoRow.holds Try.pinned (OpenSpec.upto num64BinsSpec)

/-- 'gangwaylaw4.Num64Laws', WHERE WHAT IT READS IS OF BULK AT MOST 1048576: true; the input reads as it did. -/
def num64LawsUptoRow : OpenClaim := { program := "ytmkpaifcgjldbaa", sum := "0d206d3e03bee5695d169ce73c57c92aad7f16b2728d7937c4aa2756d5ecdd36", func := "gangway/gangwaylaw4.Num64Laws", spec := "num64Laws", unfollowed := true, recurses := true, apart := false, narrowed := true }
def Num64LawsUptoSaid : Prop := num64LawsUptoRow.holds Try.pinned (OpenSpec.upto num64LawsSpec)

/-- 'gangwaylaw4.Num64Tests', WHERE WHAT IT READS IS OF BULK AT MOST 1048576: true; the input reads as it did. -/
def num64TestsUptoRow : OpenClaim := { program := "ytmkpaifcgjldbaa", sum := "0d206d3e03bee5695d169ce73c57c92aad7f16b2728d7937c4aa2756d5ecdd36", func := "gangway/gangwaylaw4.Num64Tests", spec := "num64Tests", unfollowed := true, recurses := true, apart := false, narrowed := true }
def Num64TestsUptoSaid : Prop := num64TestsUptoRow.holds Try.pinned (OpenSpec.upto num64TestsSpec)

/-- 'gangwaylaw4.Num64Sums', WHERE WHAT IT READS IS OF BULK AT MOST 1048576: true; the input reads as it did. -/
def num64SumsUptoRow : OpenClaim := { program := "ytmkpaifcgjldbaa", sum := "0d206d3e03bee5695d169ce73c57c92aad7f16b2728d7937c4aa2756d5ecdd36", func := "gangway/gangwaylaw4.Num64Sums", spec := "num64Sums", unfollowed := true, recurses := true, apart := false, narrowed := true }
def Num64SumsUptoSaid : Prop := num64SumsUptoRow.holds Try.pinned (OpenSpec.upto num64SumsSpec)

/-- 'gangwaylaw4.Num64Shifts', WHERE WHAT IT READS IS OF BULK AT MOST 1048576: true; the input reads as it did. -/
def num64ShiftsUptoRow : OpenClaim := { program := "ytmkpaifcgjldbaa", sum := "0d206d3e03bee5695d169ce73c57c92aad7f16b2728d7937c4aa2756d5ecdd36", func := "gangway/gangwaylaw4.Num64Shifts", spec := "num64Shifts", unfollowed := true, recurses := true, apart := false, narrowed := true }
def Num64ShiftsUptoSaid : Prop := num64ShiftsUptoRow.holds Try.pinned (OpenSpec.upto num64ShiftsSpec)

/-- 'gangwaylaw4.Num64Convs', WHERE WHAT IT READS IS OF BULK AT MOST 1048576: true; the input reads as it did. -/
def num64ConvsUptoRow : OpenClaim := { program := "ytmkpaifcgjldbaa", sum := "0d206d3e03bee5695d169ce73c57c92aad7f16b2728d7937c4aa2756d5ecdd36", func := "gangway/gangwaylaw4.Num64Convs", spec := "num64Convs", unfollowed := true, recurses := true, apart := false, narrowed := true }
def Num64ConvsUptoSaid : Prop := num64ConvsUptoRow.holds Try.pinned (OpenSpec.upto num64ConvsSpec)

/-- 'gangwaylaw4.Num64Low', WHERE WHAT IT READS IS OF BULK AT MOST 1048576: true; the input reads as it did. -/
def num64LowUptoRow : OpenClaim := { program := "ytmkpaifcgjldbaa", sum := "0d206d3e03bee5695d169ce73c57c92aad7f16b2728d7937c4aa2756d5ecdd36", func := "gangway/gangwaylaw4.Num64Low", spec := "num64Low", unfollowed := true, recurses := true, apart := false, narrowed := true }
def Num64LowUptoSaid : Prop := num64LowUptoRow.holds Try.pinned (OpenSpec.upto num64LowSpec)

end Rows
end Go.Proofs.Ytmkpaifcgjldbaa
