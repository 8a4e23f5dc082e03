/-
  NARROWER THAN 'FOR EVERY INPUT', by the rows' own cells (each row's printed sentence says how): Num32Uns: laid · Num32All: laid · Num32Bits: laid.
  DERIVED. THE GIVEN ROWS OF THIS SEAT. 3 by the template 'for every input the law returns true; each argument reads behind the call as it read before'; 0 by the template 'total and deterministic' (their statements: YtbpgcndanlmdjaaDoorTotals.lean).
  GIVEN WITH THE SEED: the statements are not yours to turn. If you find one false, say at which input.
  Laid BY PROGRAM, IN A SANDBOX (cutbox-rows.mjs): the forced cells as the released guide's own fill.sh prints them over the translation b840443e0a7347a2… (all of the seat's roots in one cut). By AI agents, Wed Nov 11 2026. No macro, syntax, notation, axiom, sorry.
-/
import Derived.Test.YtbpgcndanlmdjaaDoorChecked
import GoSem.Claim
import GoSem.ClaimJoined
import GoSem.ClaimMapViews
import Derived.JoinedTies
import Derived.KernelRfl
namespace Go.Proofs.YtbpgcndanlmdjaaDoor
/- THE CELL 'sum', in the pinned program and in every row, IS THE sha256 OF THE DUMP (.gsa) THAT YtbpgcndanlmdjaaDoorProg.lean LOADS. Nothing in Lean hashes anything: it is a label: what it is worth is what the hold of that sum in a sandbox is worth. -/
noncomputable def Tryd.pinned : Pinned := { name := "ytbpgcndanlmdjaadoor", sum := "b840443e0a7347a2eaf1d95f2a9955f01611967214f83367dbf120f90347f20a", checked := Tryd.checked }
namespace Rows
def none {H : Type} : Left H := { results := [], args := [] }

/- WHAT THE LISTED PACKAGE-LEVEL VARIABLES READ AS WHEN THE CALL BEGINS. Each datum BY PROGRAM (the guide's laid-datum.mjs) off the statement by which the dump's own 'gosem.cut.vars' lays the variable. In a bare row this is a premise. The card (YtbpgcndanlmdjaaDoorCards.lean) ties it to the program's text. -/
def laid_math_bits_deBruijn32tab {H : Type} : DataW H := .agg [.lit (.int .u8 0), .lit (.int .u8 1), .lit (.int .u8 28), .lit (.int .u8 2), .lit (.int .u8 29), .lit (.int .u8 14), .lit (.int .u8 24), .lit (.int .u8 3), .lit (.int .u8 30), .lit (.int .u8 22), .lit (.int .u8 20), .lit (.int .u8 15), .lit (.int .u8 25), .lit (.int .u8 17), .lit (.int .u8 4), .lit (.int .u8 8), .lit (.int .u8 31), .lit (.int .u8 27), .lit (.int .u8 13), .lit (.int .u8 23), .lit (.int .u8 21), .lit (.int .u8 19), .lit (.int .u8 16), .lit (.int .u8 7), .lit (.int .u8 26), .lit (.int .u8 12), .lit (.int .u8 18), .lit (.int .u8 6), .lit (.int .u8 11), .lit (.int .u8 5), .lit (.int .u8 10), .lit (.int .u8 9)]

/-- 'gangwaylaw3.Num32Uns': WHATEVER THE INPUT: true; the input reads as it did. -/
def num32UnsSpec : ChangeSpec := { name := "num32Uns", fn := fun _ => fun
  | [d] => { results := [.lit (.bool true)], args := [d] }
  | _ => none }
def num32UnsRow : OpenClaim := { program := "ytbpgcndanlmdjaadoor", sum := "b840443e0a7347a2eaf1d95f2a9955f01611967214f83367dbf120f90347f20a", func := "gangway/gangwaylaw3.Num32Uns", spec := "num32Uns", unfollowed := true, recurses := true, named := ["math/bits.deBruijn32tab"], apart := false, laid := [("math/bits.deBruijn32tab", laid_math_bits_deBruijn32tab)] }
def Num32UnsSaid : Prop := num32UnsRow.holds Tryd.pinned (OpenSpec.ofChange num32UnsSpec)

/-- ITS FALSE NEIGHBOUR: 'it returns false'. Refute it at one input. -/
def num32UnsWrong : ChangeSpec := { name := "num32Uns", fn := fun _ => fun
  | [d] => { results := [.lit (.bool false)], args := [d] }
  | _ => none }
def Num32UnsWrongFalsely : Prop := num32UnsRow.holds Tryd.pinned (OpenSpec.ofChange num32UnsWrong)

/-- 'gangwaylaw3.Num32All': WHATEVER THE INPUT: true; the input reads as it did. -/
def num32AllSpec : ChangeSpec := { name := "num32All", fn := fun _ => fun
  | [d] => { results := [.lit (.bool true)], args := [d] }
  | _ => none }
def num32AllRow : OpenClaim := { program := "ytbpgcndanlmdjaadoor", sum := "b840443e0a7347a2eaf1d95f2a9955f01611967214f83367dbf120f90347f20a", func := "gangway/gangwaylaw3.Num32All", spec := "num32All", unfollowed := true, recurses := true, named := ["math/bits.deBruijn32tab"], apart := false, laid := [("math/bits.deBruijn32tab", laid_math_bits_deBruijn32tab)] }
def Num32AllSaid : Prop := num32AllRow.holds Tryd.pinned (OpenSpec.ofChange num32AllSpec)

/-- ITS FALSE NEIGHBOUR: 'it returns false'. Refute it at one input. -/
def num32AllWrong : ChangeSpec := { name := "num32All", fn := fun _ => fun
  | [d] => { results := [.lit (.bool false)], args := [d] }
  | _ => none }
def Num32AllWrongFalsely : Prop := num32AllRow.holds Tryd.pinned (OpenSpec.ofChange num32AllWrong)

/-- 'gangwaylaw3.Num32Bits': WHATEVER THE INPUT: true; the input reads as it did. -/
def num32BitsSpec : ChangeSpec := { name := "num32Bits", fn := fun _ => fun
  | [d] => { results := [.lit (.bool true)], args := [d] }
  | _ => none }
def num32BitsRow : OpenClaim := { program := "ytbpgcndanlmdjaadoor", sum := "b840443e0a7347a2eaf1d95f2a9955f01611967214f83367dbf120f90347f20a", func := "gangway/gangwaylaw3.Num32Bits", spec := "num32Bits", unfollowed := true, recurses := true, named := ["math/bits.deBruijn32tab"], apart := false, laid := [("math/bits.deBruijn32tab", laid_math_bits_deBruijn32tab)] }
def Num32BitsSaid : Prop := num32BitsRow.holds Tryd.pinned (OpenSpec.ofChange num32BitsSpec)

/-- ITS FALSE NEIGHBOUR: 'it returns false'. Refute it at one input. -/
def num32BitsWrong : ChangeSpec := { name := "num32Bits", fn := fun _ => fun
  | [d] => { results := [.lit (.bool false)], args := [d] }
  | _ => none }
def Num32BitsWrongFalsely : Prop := num32BitsRow.holds Tryd.pinned (OpenSpec.ofChange num32BitsWrong)

/- THE SECOND FORM. 'bulk': how many values and letters a reading holds, each counted each time it is reached (what is shared counts as often as it is met; a slice's spare places count too). A statement '..UptoSaid' is the law's where the arguments, and the package variables that the reading takes, are together of bulk at most 1048576: NARROWER than '..Said'. Prove '..Said' where nothing that the law and all that it calls make is longer than what came in: it says more and counts as full. Else prove '..UptoSaid'. A law counts once. -/
mutual
def uptoBulk {H : Type} : DataW H → Nat
  | .lit (.string bytes) => bytes.length + 1
  | .lit _ => 1
  | .nil => 1
  | .ptr d => uptoBulk d + 1
  | .slice elems spare => uptoBulkAll elems + uptoBulkAll spare + 1
  | .agg parts => uptoBulkAll parts + 1
  | .iface _ d => uptoBulk d + 1
  | .map entries => uptoBulkEntries entries + 1
  | .held _ => 1
def uptoBulkAll {H : Type} : List (DataW H) → Nat
  | [] => 0
  | d :: r => uptoBulk d + uptoBulkAll r
def uptoBulkEntries {H : Type} : List (Lit × DataW H) → Nat
  | [] => 0
  | x :: r => uptoBulkEntry x + uptoBulkEntries r
def uptoBulkEntry {H : Type} : Lit × DataW H → Nat
  | (.string bytes, d) => bytes.length + uptoBulk d + 1
  | (_, d) => uptoBulk d + 1
 end
def uptoSmall : (H : Type) → List (DataW H) → Bool := fun _ ds => decide (uptoBulkAll ds ≤ 1048576)
def OpenSpec.upto (s : _root_.Go.ChangeSpec) : _root_.Go.OpenSpec := { _root_.Go.OpenSpec.ofChange s with cond := some uptoSmall }

/-- 'gangwaylaw3.Num32Uns', WHERE WHAT IT READS IS OF BULK AT MOST 1048576: true; the input reads as it did. -/
def num32UnsUptoRow : OpenClaim := { program := "ytbpgcndanlmdjaadoor", sum := "b840443e0a7347a2eaf1d95f2a9955f01611967214f83367dbf120f90347f20a", func := "gangway/gangwaylaw3.Num32Uns", spec := "num32Uns", unfollowed := true, recurses := true, named := ["math/bits.deBruijn32tab"], apart := false, laid := [("math/bits.deBruijn32tab", laid_math_bits_deBruijn32tab)], narrowed := true }
def Num32UnsUptoSaid : Prop := num32UnsUptoRow.holds Tryd.pinned (OpenSpec.upto num32UnsSpec)

/-- 'gangwaylaw3.Num32All', WHERE WHAT IT READS IS OF BULK AT MOST 1048576: true; the input reads as it did. -/
def num32AllUptoRow : OpenClaim := { program := "ytbpgcndanlmdjaadoor", sum := "b840443e0a7347a2eaf1d95f2a9955f01611967214f83367dbf120f90347f20a", func := "gangway/gangwaylaw3.Num32All", spec := "num32All", unfollowed := true, recurses := true, named := ["math/bits.deBruijn32tab"], apart := false, laid := [("math/bits.deBruijn32tab", laid_math_bits_deBruijn32tab)], narrowed := true }
def Num32AllUptoSaid : Prop := num32AllUptoRow.holds Tryd.pinned (OpenSpec.upto num32AllSpec)

/-- 'gangwaylaw3.Num32Bits', WHERE WHAT IT READS IS OF BULK AT MOST 1048576: true; the input reads as it did. -/
def num32BitsUptoRow : OpenClaim := { program := "ytbpgcndanlmdjaadoor", sum := "b840443e0a7347a2eaf1d95f2a9955f01611967214f83367dbf120f90347f20a", func := "gangway/gangwaylaw3.Num32Bits", spec := "num32Bits", unfollowed := true, recurses := true, named := ["math/bits.deBruijn32tab"], apart := false, laid := [("math/bits.deBruijn32tab", laid_math_bits_deBruijn32tab)], narrowed := true }
def Num32BitsUptoSaid : Prop := num32BitsUptoRow.holds Tryd.pinned (OpenSpec.upto num32BitsSpec)

end Rows
end Go.Proofs.YtbpgcndanlmdjaaDoor
