/-
  No cell of these rows narrows 'for every input' (looked for: loops, veiled, ifaces, maps, wideKeys, modest, calm, conditions, laid).
  DERIVED. THE GIVEN ROWS OF THIS SEAT. 5 by the template 'for every input the law returns true; each argument reads behind the call as it read before'; 0 by the template 'total and deterministic' (their statements: YtbpgcndanlmdjaaTotals.lean).
  GIVEN WITH THE SEED: the statements are not yours to turn. If you find one false, say at which input.
  Laid BY PROGRAM, IN A SANDBOX (cutbox-rows.mjs): the forced cells as the released guide's own fill.sh prints them over the translation 7940e5ee9916dea6… (all of the seat's roots in one cut). By AI agents, Wed Nov 11 2026. No macro, syntax, notation, axiom, sorry.
-/
import Derived.Test.YtbpgcndanlmdjaaChecked
import GoSem.Claim
import GoSem.ClaimJoined
import GoSem.ClaimMapViews
import Derived.JoinedTies
import Derived.KernelRfl
namespace Go.Proofs.Ytbpgcndanlmdjaa
/- THE CELL 'sum', in the pinned program and in every row, IS THE sha256 OF THE DUMP (.gsa) THAT YtbpgcndanlmdjaaProg.lean LOADS. Nothing in Lean hashes anything: it is a label: what it is worth is what the hold of that sum in a sandbox is worth. -/
noncomputable def Try.pinned : Pinned := { name := "ytbpgcndanlmdjaa", sum := "7940e5ee9916dea6e9cae9b75245383f8c130967c3c16810692fb82873f566b3", checked := Try.checked }
namespace Rows
def none {H : Type} : Left H := { results := [], args := [] }

/-- 'gangwaylaw3.Num32Bins': WHATEVER THE INPUT: true; the input reads as it did. -/
def num32BinsSpec : ChangeSpec := { name := "num32Bins", fn := fun _ => fun
  | [d] => { results := [.lit (.bool true)], args := [d] }
  | _ => none }
def num32BinsRow : OpenClaim := { program := "ytbpgcndanlmdjaa", sum := "7940e5ee9916dea6e9cae9b75245383f8c130967c3c16810692fb82873f566b3", func := "gangway/gangwaylaw3.Num32Bins", spec := "num32Bins", unfollowed := true, recurses := true, apart := false }
def Num32BinsSaid : Prop := num32BinsRow.holds Try.pinned (OpenSpec.ofChange num32BinsSpec)

/-- ITS FALSE NEIGHBOUR: 'it returns false'. Refute it at one input. -/
def num32BinsWrong : ChangeSpec := { name := "num32Bins", fn := fun _ => fun
  | [d] => { results := [.lit (.bool false)], args := [d] }
  | _ => none }
def Num32BinsWrongFalsely : Prop := num32BinsRow.holds Try.pinned (OpenSpec.ofChange num32BinsWrong)

/-- 'gangwaylaw3.Num32Laws': WHATEVER THE INPUT: true; the input reads as it did. -/
def num32LawsSpec : ChangeSpec := { name := "num32Laws", fn := fun _ => fun
  | [d] => { results := [.lit (.bool true)], args := [d] }
  | _ => none }
def num32LawsRow : OpenClaim := { program := "ytbpgcndanlmdjaa", sum := "7940e5ee9916dea6e9cae9b75245383f8c130967c3c16810692fb82873f566b3", func := "gangway/gangwaylaw3.Num32Laws", spec := "num32Laws", unfollowed := true, recurses := true, apart := false }
def Num32LawsSaid : Prop := num32LawsRow.holds Try.pinned (OpenSpec.ofChange num32LawsSpec)

/-- ITS FALSE NEIGHBOUR: 'it returns false'. Refute it at one input. -/
def num32LawsWrong : ChangeSpec := { name := "num32Laws", fn := fun _ => fun
  | [d] => { results := [.lit (.bool false)], args := [d] }
  | _ => none }
def Num32LawsWrongFalsely : Prop := num32LawsRow.holds Try.pinned (OpenSpec.ofChange num32LawsWrong)

/-- 'gangwaylaw3.Num32Tests': WHATEVER THE INPUT: true; the input reads as it did. -/
def num32TestsSpec : ChangeSpec := { name := "num32Tests", fn := fun _ => fun
  | [d] => { results := [.lit (.bool true)], args := [d] }
  | _ => none }
def num32TestsRow : OpenClaim := { program := "ytbpgcndanlmdjaa", sum := "7940e5ee9916dea6e9cae9b75245383f8c130967c3c16810692fb82873f566b3", func := "gangway/gangwaylaw3.Num32Tests", spec := "num32Tests", unfollowed := true, recurses := true, apart := false }
def Num32TestsSaid : Prop := num32TestsRow.holds Try.pinned (OpenSpec.ofChange num32TestsSpec)

/-- ITS FALSE NEIGHBOUR: 'it returns false'. Refute it at one input. -/
def num32TestsWrong : ChangeSpec := { name := "num32Tests", fn := fun _ => fun
  | [d] => { results := [.lit (.bool false)], args := [d] }
  | _ => none }
def Num32TestsWrongFalsely : Prop := num32TestsRow.holds Try.pinned (OpenSpec.ofChange num32TestsWrong)

/-- 'gangwaylaw3.Num32Sums': WHATEVER THE INPUT: true; the input reads as it did. -/
def num32SumsSpec : ChangeSpec := { name := "num32Sums", fn := fun _ => fun
  | [d] => { results := [.lit (.bool true)], args := [d] }
  | _ => none }
def num32SumsRow : OpenClaim := { program := "ytbpgcndanlmdjaa", sum := "7940e5ee9916dea6e9cae9b75245383f8c130967c3c16810692fb82873f566b3", func := "gangway/gangwaylaw3.Num32Sums", spec := "num32Sums", unfollowed := true, recurses := true, apart := false }
def Num32SumsSaid : Prop := num32SumsRow.holds Try.pinned (OpenSpec.ofChange num32SumsSpec)

/-- ITS FALSE NEIGHBOUR: 'it returns false'. Refute it at one input. -/
def num32SumsWrong : ChangeSpec := { name := "num32Sums", fn := fun _ => fun
  | [d] => { results := [.lit (.bool false)], args := [d] }
  | _ => none }
def Num32SumsWrongFalsely : Prop := num32SumsRow.holds Try.pinned (OpenSpec.ofChange num32SumsWrong)

/-- 'gangwaylaw3.Num32Shifts': WHATEVER THE INPUT: true; the input reads as it did. -/
def num32ShiftsSpec : ChangeSpec := { name := "num32Shifts", fn := fun _ => fun
  | [d] => { results := [.lit (.bool true)], args := [d] }
  | _ => none }
def num32ShiftsRow : OpenClaim := { program := "ytbpgcndanlmdjaa", sum := "7940e5ee9916dea6e9cae9b75245383f8c130967c3c16810692fb82873f566b3", func := "gangway/gangwaylaw3.Num32Shifts", spec := "num32Shifts", unfollowed := true, recurses := true, apart := false }
def Num32ShiftsSaid : Prop := num32ShiftsRow.holds Try.pinned (OpenSpec.ofChange num32ShiftsSpec)

/-- ITS FALSE NEIGHBOUR: 'it returns false'. Refute it at one input. -/
def num32ShiftsWrong : ChangeSpec := { name := "num32Shifts", fn := fun _ => fun
  | [d] => { results := [.lit (.bool false)], args := [d] }
  | _ => none }
def Num32ShiftsWrongFalsely : Prop := num32ShiftsRow.holds Try.pinned (OpenSpec.ofChange num32ShiftsWrong)

/- THE SECOND FORM. 'bulk': how many values and letters a reading holds, each counted each time it is reached (what is shared counts as often as it is met; a slice's spare places count too). A statement '..UptoSaid' is the law's where the arguments, and the package variables that the reading takes, are together of bulk at most 1048576: NARROWER than '..Said'. Prove '..Said' where nothing that the law and all that it calls make is longer than what came in: it says more and counts as full. Else prove '..UptoSaid'. A law counts once. -/
mutual
def uptoBulk {H : Type} : DataW H → Nat
  | .lit (.string bytes) => bytes.length + 1
  | .lit _ => 1
  | .nil => 1
  | .ptr d => uptoBulk d + 1
  | .slice elems spare => uptoBulkAll elems + uptoBulkAll spare + 1
  | .agg parts => uptoBulkAll parts + 1
  | .iface _ d => uptoBulk d + 1
  | .map entries => uptoBulkEntries entries + 1
  | .held _ => 1
def uptoBulkAll {H : Type} : List (DataW H) → Nat
  | [] => 0
  | d :: r => uptoBulk d + uptoBulkAll r
def uptoBulkEntries {H : Type} : List (Lit × DataW H) → Nat
  | [] => 0
  | x :: r => uptoBulkEntry x + uptoBulkEntries r
def uptoBulkEntry {H : Type} : Lit × DataW H → Nat
  | (.string bytes, d) => bytes.length + uptoBulk d + 1
  | (_, d) => uptoBulk d + 1
 end
def uptoSmall : (H : Type) → List (DataW H) → Bool := fun _ ds => decide (uptoBulkAll ds ≤ 1048576)
def OpenSpec.upto (s : _root_.Go.ChangeSpec) : _root_.Go.OpenSpec := { _root_.Go.OpenSpec.ofChange s with cond := some uptoSmall }

/-- 'gangwaylaw3.Num32Bins', WHERE WHAT IT READS IS OF BULK AT MOST 1048576: true; the input reads as it did. -/
def num32BinsUptoRow : OpenClaim := { program := "ytbpgcndanlmdjaa", sum := "7940e5ee9916dea6e9cae9b75245383f8c130967c3c16810692fb82873f566b3", func := "gangway/gangwaylaw3.Num32Bins", spec := "num32Bins", unfollowed := true, recurses := true, apart := false, narrowed := true }
def Num32BinsUptoSaid : Prop := num32BinsUptoRow.holds Try.pinned (OpenSpec.upto num32BinsSpec)

/-- 'gangwaylaw3.Num32Laws', WHERE WHAT IT READS IS OF BULK AT MOST 1048576: true; the input reads as it did. -/
def num32LawsUptoRow : OpenClaim := { program := "ytbpgcndanlmdjaa", sum := "7940e5ee9916dea6e9cae9b75245383f8c130967c3c16810692fb82873f566b3", func := "gangway/gangwaylaw3.Num32Laws", spec := "num32Laws", unfollowed := true, recurses := true, apart := false, narrowed := true }
def Num32LawsUptoSaid : Prop := num32LawsUptoRow.holds Try.pinned (OpenSpec.upto num32LawsSpec)

/-- 'gangwaylaw3.Num32Tests', WHERE WHAT IT READS IS OF BULK AT MOST 1048576: true; the input reads as it did. -/
def num32TestsUptoRow : OpenClaim := { program := "ytbpgcndanlmdjaa", sum := "7940e5ee9916dea6e9cae9b75245383f8c130967c3c16810692fb82873f566b3", func := "gangway/gangwaylaw3.Num32Tests", spec := "num32Tests", unfollowed := true, recurses := true, apart := false, narrowed := true }
def Num32TestsUptoSaid : Prop := num32TestsUptoRow.holds Try.pinned (OpenSpec.upto num32TestsSpec)

/-- 'gangwaylaw3.Num32Sums', WHERE WHAT IT READS IS OF BULK AT MOST 1048576: true; the input reads as it did. -/
def num32SumsUptoRow : OpenClaim := { program := "ytbpgcndanlmdjaa", sum := "7940e5ee9916dea6e9cae9b75245383f8c130967c3c16810692fb82873f566b3", func := "gangway/gangwaylaw3.Num32Sums", spec := "num32Sums", unfollowed := true, recurses := true, apart := false, narrowed := true }
def Num32SumsUptoSaid : Prop := num32SumsUptoRow.holds Try.pinned (OpenSpec.upto num32SumsSpec)

/-- 'gangwaylaw3.Num32Shifts', WHERE WHAT IT READS IS OF BULK AT MOST 1048576: true; the input reads as it did. -/
def num32ShiftsUptoRow : OpenClaim := { program := "ytbpgcndanlmdjaa", sum := "7940e5ee9916dea6e9cae9b75245383f8c130967c3c16810692fb82873f566b3", func := "gangway/gangwaylaw3.Num32Shifts", spec := "num32Shifts", unfollowed := true, recurses := true, apart := false, narrowed := true }
def Num32ShiftsUptoSaid : Prop := num32ShiftsUptoRow.holds Try.pinned (OpenSpec.upto num32ShiftsSpec)

end Rows
end Go.Proofs.Ytbpgcndanlmdjaa
