/-
  No cell of these rows narrows 'for every input' (looked for: loops, veiled, ifaces, maps, wideKeys, modest, calm, conditions, laid).
  DERIVED. THE GIVEN ROWS OF THIS SEAT. 16 by the template 'for every input the law returns true; each argument reads behind the call as it read before'; 0 by the template 'total and deterministic' (their statements: YtdemeoncjcbojaaTotals.lean).
  GIVEN WITH THE SEED: the statements are not yours to turn. If you find one false, say at which input.
  Laid BY PROGRAM, IN A SANDBOX (cutbox-rows.mjs): the forced cells as the released guide's own fill.sh prints them over the translation 3ee98edaa1f67790… (all of the seat's roots in one cut). By AI agents, Wed Nov 11 2026. No macro, syntax, notation, axiom, sorry.
-/
import Derived.Test.YtdemeoncjcbojaaChecked
import GoSem.Claim
import GoSem.ClaimJoined
import GoSem.ClaimMapViews
import Derived.JoinedTies
import Derived.KernelRfl
namespace Go.Proofs.Ytdemeoncjcbojaa
/- THE CELL 'sum', in the pinned program and in every row, IS THE sha256 OF THE DUMP (.gsa) THAT YtdemeoncjcbojaaProg.lean LOADS. Nothing in Lean hashes anything: it is a label: what it is worth is what the hold of that sum in a sandbox is worth. -/
noncomputable def Try.pinned : Pinned := { name := "ytdemeoncjcbojaa", sum := "3ee98edaa1f67790491f87b34ba3c993b69138135ed2334adf1317f9a6235f4a", checked := Try.checked }
namespace Rows
def none {H : Type} : Left H := { results := [], args := [] }

/-- 'laws.FnExactBigOk': WHATEVER THE INPUT: true; the input reads as it did. -/
def fnExactBigOkSpec : ChangeSpec := { name := "fnExactBigOk", fn := fun _ => fun
  | [d] => { results := [.lit (.bool true)], args := [d] }
  | _ => none }
def fnExactBigOkRow : OpenClaim := { program := "ytdemeoncjcbojaa", sum := "3ee98edaa1f67790491f87b34ba3c993b69138135ed2334adf1317f9a6235f4a", func := "loop.example/jetton/laws.FnExactBigOk", spec := "fnExactBigOk", unfollowed := true, recurses := true, apart := false }
def FnExactBigOkSaid : Prop := fnExactBigOkRow.holds Try.pinned (OpenSpec.ofChange fnExactBigOkSpec)

/-- ITS FALSE NEIGHBOUR: 'it returns false'. Refute it at one input. -/
def fnExactBigOkWrong : ChangeSpec := { name := "fnExactBigOk", fn := fun _ => fun
  | [d] => { results := [.lit (.bool false)], args := [d] }
  | _ => none }
def FnExactBigOkWrongFalsely : Prop := fnExactBigOkRow.holds Try.pinned (OpenSpec.ofChange fnExactBigOkWrong)

/-- 'laws.FnExactBigOf': WHATEVER THE INPUT: true; the input reads as it did. -/
def fnExactBigOfSpec : ChangeSpec := { name := "fnExactBigOf", fn := fun _ => fun
  | [d] => { results := [.lit (.bool true)], args := [d] }
  | _ => none }
def fnExactBigOfRow : OpenClaim := { program := "ytdemeoncjcbojaa", sum := "3ee98edaa1f67790491f87b34ba3c993b69138135ed2334adf1317f9a6235f4a", func := "loop.example/jetton/laws.FnExactBigOf", spec := "fnExactBigOf", apart := false }
def FnExactBigOfSaid : Prop := fnExactBigOfRow.holds Try.pinned (OpenSpec.ofChange fnExactBigOfSpec)

/-- ITS FALSE NEIGHBOUR: 'it returns false'. Refute it at one input. -/
def fnExactBigOfWrong : ChangeSpec := { name := "fnExactBigOf", fn := fun _ => fun
  | [d] => { results := [.lit (.bool false)], args := [d] }
  | _ => none }
def FnExactBigOfWrongFalsely : Prop := fnExactBigOfRow.holds Try.pinned (OpenSpec.ofChange fnExactBigOfWrong)

/-- 'laws.FnExactBigTen': WHATEVER THE INPUT: true; the input reads as it did. -/
def fnExactBigTenSpec : ChangeSpec := { name := "fnExactBigTen", fn := fun _ => fun
  | [d] => { results := [.lit (.bool true)], args := [d] }
  | _ => none }
def fnExactBigTenRow : OpenClaim := { program := "ytdemeoncjcbojaa", sum := "3ee98edaa1f67790491f87b34ba3c993b69138135ed2334adf1317f9a6235f4a", func := "loop.example/jetton/laws.FnExactBigTen", spec := "fnExactBigTen", apart := false }
def FnExactBigTenSaid : Prop := fnExactBigTenRow.holds Try.pinned (OpenSpec.ofChange fnExactBigTenSpec)

/-- ITS FALSE NEIGHBOUR: 'it returns false'. Refute it at one input. -/
def fnExactBigTenWrong : ChangeSpec := { name := "fnExactBigTen", fn := fun _ => fun
  | [d] => { results := [.lit (.bool false)], args := [d] }
  | _ => none }
def FnExactBigTenWrongFalsely : Prop := fnExactBigTenRow.holds Try.pinned (OpenSpec.ofChange fnExactBigTenWrong)

/-- 'laws.FnBigOf': WHATEVER THE INPUT: true; the input reads as it did. -/
def fnBigOfSpec : ChangeSpec := { name := "fnBigOf", fn := fun _ => fun
  | [d1, d2] => { results := [.lit (.bool true)], args := [d1, d2] }
  | _ => none }
def fnBigOfRow : OpenClaim := { program := "ytdemeoncjcbojaa", sum := "3ee98edaa1f67790491f87b34ba3c993b69138135ed2334adf1317f9a6235f4a", func := "loop.example/jetton/laws.FnBigOf", spec := "fnBigOf", unfollowed := true, recurses := true, apart := false }
def FnBigOfSaid : Prop := fnBigOfRow.holds Try.pinned (OpenSpec.ofChange fnBigOfSpec)

/-- ITS FALSE NEIGHBOUR: 'it returns false'. Refute it at one input. -/
def fnBigOfWrong : ChangeSpec := { name := "fnBigOf", fn := fun _ => fun
  | [d1, d2] => { results := [.lit (.bool false)], args := [d1, d2] }
  | _ => none }
def FnBigOfWrongFalsely : Prop := fnBigOfRow.holds Try.pinned (OpenSpec.ofChange fnBigOfWrong)

/-- 'laws.FnExactBigCmp': WHATEVER THE INPUT: true; the input reads as it did. -/
def fnExactBigCmpSpec : ChangeSpec := { name := "fnExactBigCmp", fn := fun _ => fun
  | [d1, d2] => { results := [.lit (.bool true)], args := [d1, d2] }
  | _ => none }
def fnExactBigCmpRow : OpenClaim := { program := "ytdemeoncjcbojaa", sum := "3ee98edaa1f67790491f87b34ba3c993b69138135ed2334adf1317f9a6235f4a", func := "loop.example/jetton/laws.FnExactBigCmp", spec := "fnExactBigCmp", unfollowed := true, recurses := true, apart := false }
def FnExactBigCmpSaid : Prop := fnExactBigCmpRow.holds Try.pinned (OpenSpec.ofChange fnExactBigCmpSpec)

/-- ITS FALSE NEIGHBOUR: 'it returns false'. Refute it at one input. -/
def fnExactBigCmpWrong : ChangeSpec := { name := "fnExactBigCmp", fn := fun _ => fun
  | [d1, d2] => { results := [.lit (.bool false)], args := [d1, d2] }
  | _ => none }
def FnExactBigCmpWrongFalsely : Prop := fnExactBigCmpRow.holds Try.pinned (OpenSpec.ofChange fnExactBigCmpWrong)

/-- 'laws.FnExactBigMul': WHATEVER THE INPUT: true; the input reads as it did. -/
def fnExactBigMulSpec : ChangeSpec := { name := "fnExactBigMul", fn := fun _ => fun
  | [d1, d2] => { results := [.lit (.bool true)], args := [d1, d2] }
  | _ => none }
def fnExactBigMulRow : OpenClaim := { program := "ytdemeoncjcbojaa", sum := "3ee98edaa1f67790491f87b34ba3c993b69138135ed2334adf1317f9a6235f4a", func := "loop.example/jetton/laws.FnExactBigMul", spec := "fnExactBigMul", unfollowed := true, recurses := true, apart := false }
def FnExactBigMulSaid : Prop := fnExactBigMulRow.holds Try.pinned (OpenSpec.ofChange fnExactBigMulSpec)

/-- ITS FALSE NEIGHBOUR: 'it returns false'. Refute it at one input. -/
def fnExactBigMulWrong : ChangeSpec := { name := "fnExactBigMul", fn := fun _ => fun
  | [d1, d2] => { results := [.lit (.bool false)], args := [d1, d2] }
  | _ => none }
def FnExactBigMulWrongFalsely : Prop := fnExactBigMulRow.holds Try.pinned (OpenSpec.ofChange fnExactBigMulWrong)

/-- 'laws.FnBigCmpThree': WHATEVER THE INPUT: true; the input reads as it did. -/
def fnBigCmpThreeSpec : ChangeSpec := { name := "fnBigCmpThree", fn := fun _ => fun
  | [d1, d2] => { results := [.lit (.bool true)], args := [d1, d2] }
  | _ => none }
def fnBigCmpThreeRow : OpenClaim := { program := "ytdemeoncjcbojaa", sum := "3ee98edaa1f67790491f87b34ba3c993b69138135ed2334adf1317f9a6235f4a", func := "loop.example/jetton/laws.FnBigCmpThree", spec := "fnBigCmpThree", unfollowed := true, recurses := true, apart := false }
def FnBigCmpThreeSaid : Prop := fnBigCmpThreeRow.holds Try.pinned (OpenSpec.ofChange fnBigCmpThreeSpec)

/-- ITS FALSE NEIGHBOUR: 'it returns false'. Refute it at one input. -/
def fnBigCmpThreeWrong : ChangeSpec := { name := "fnBigCmpThree", fn := fun _ => fun
  | [d1, d2] => { results := [.lit (.bool false)], args := [d1, d2] }
  | _ => none }
def FnBigCmpThreeWrongFalsely : Prop := fnBigCmpThreeRow.holds Try.pinned (OpenSpec.ofChange fnBigCmpThreeWrong)

/-- 'laws.FnBigParts': WHATEVER THE INPUT: true; the input reads as it did. -/
def fnBigPartsSpec : ChangeSpec := { name := "fnBigParts", fn := fun _ => fun
  | [d1, d2] => { results := [.lit (.bool true)], args := [d1, d2] }
  | _ => none }
def fnBigPartsRow : OpenClaim := { program := "ytdemeoncjcbojaa", sum := "3ee98edaa1f67790491f87b34ba3c993b69138135ed2334adf1317f9a6235f4a", func := "loop.example/jetton/laws.FnBigParts", spec := "fnBigParts", unfollowed := true, recurses := true, apart := false }
def FnBigPartsSaid : Prop := fnBigPartsRow.holds Try.pinned (OpenSpec.ofChange fnBigPartsSpec)

/-- ITS FALSE NEIGHBOUR: 'it returns false'. Refute it at one input. -/
def fnBigPartsWrong : ChangeSpec := { name := "fnBigParts", fn := fun _ => fun
  | [d1, d2] => { results := [.lit (.bool false)], args := [d1, d2] }
  | _ => none }
def FnBigPartsWrongFalsely : Prop := fnBigPartsRow.holds Try.pinned (OpenSpec.ofChange fnBigPartsWrong)

/-- 'laws.FnExactBigAdd': WHATEVER THE INPUT: true; the input reads as it did. -/
def fnExactBigAddSpec : ChangeSpec := { name := "fnExactBigAdd", fn := fun _ => fun
  | [d1, d2] => { results := [.lit (.bool true)], args := [d1, d2] }
  | _ => none }
def fnExactBigAddRow : OpenClaim := { program := "ytdemeoncjcbojaa", sum := "3ee98edaa1f67790491f87b34ba3c993b69138135ed2334adf1317f9a6235f4a", func := "loop.example/jetton/laws.FnExactBigAdd", spec := "fnExactBigAdd", unfollowed := true, recurses := true, apart := false }
def FnExactBigAddSaid : Prop := fnExactBigAddRow.holds Try.pinned (OpenSpec.ofChange fnExactBigAddSpec)

/-- ITS FALSE NEIGHBOUR: 'it returns false'. Refute it at one input. -/
def fnExactBigAddWrong : ChangeSpec := { name := "fnExactBigAdd", fn := fun _ => fun
  | [d1, d2] => { results := [.lit (.bool false)], args := [d1, d2] }
  | _ => none }
def FnExactBigAddWrongFalsely : Prop := fnExactBigAddRow.holds Try.pinned (OpenSpec.ofChange fnExactBigAddWrong)

/-- 'laws.FnExactBigSub': WHATEVER THE INPUT: true; the input reads as it did. -/
def fnExactBigSubSpec : ChangeSpec := { name := "fnExactBigSub", fn := fun _ => fun
  | [d1, d2] => { results := [.lit (.bool true)], args := [d1, d2] }
  | _ => none }
def fnExactBigSubRow : OpenClaim := { program := "ytdemeoncjcbojaa", sum := "3ee98edaa1f67790491f87b34ba3c993b69138135ed2334adf1317f9a6235f4a", func := "loop.example/jetton/laws.FnExactBigSub", spec := "fnExactBigSub", unfollowed := true, recurses := true, apart := false }
def FnExactBigSubSaid : Prop := fnExactBigSubRow.holds Try.pinned (OpenSpec.ofChange fnExactBigSubSpec)

/-- ITS FALSE NEIGHBOUR: 'it returns false'. Refute it at one input. -/
def fnExactBigSubWrong : ChangeSpec := { name := "fnExactBigSub", fn := fun _ => fun
  | [d1, d2] => { results := [.lit (.bool false)], args := [d1, d2] }
  | _ => none }
def FnExactBigSubWrongFalsely : Prop := fnExactBigSubRow.holds Try.pinned (OpenSpec.ofChange fnExactBigSubWrong)

/-- 'laws.FnBigCmp': WHATEVER THE INPUT: true; the input reads as it did. -/
def fnBigCmpSpec : ChangeSpec := { name := "fnBigCmp", fn := fun _ => fun
  | [d] => { results := [.lit (.bool true)], args := [d] }
  | _ => none }
def fnBigCmpRow : OpenClaim := { program := "ytdemeoncjcbojaa", sum := "3ee98edaa1f67790491f87b34ba3c993b69138135ed2334adf1317f9a6235f4a", func := "loop.example/jetton/laws.FnBigCmp", spec := "fnBigCmp", unfollowed := true, recurses := true, apart := false }
def FnBigCmpSaid : Prop := fnBigCmpRow.holds Try.pinned (OpenSpec.ofChange fnBigCmpSpec)

/-- ITS FALSE NEIGHBOUR: 'it returns false'. Refute it at one input. -/
def fnBigCmpWrong : ChangeSpec := { name := "fnBigCmp", fn := fun _ => fun
  | [d] => { results := [.lit (.bool false)], args := [d] }
  | _ => none }
def FnBigCmpWrongFalsely : Prop := fnBigCmpRow.holds Try.pinned (OpenSpec.ofChange fnBigCmpWrong)

/-- 'laws.FnBigMul': WHATEVER THE INPUT: true; the input reads as it did. -/
def fnBigMulSpec : ChangeSpec := { name := "fnBigMul", fn := fun _ => fun
  | [d] => { results := [.lit (.bool true)], args := [d] }
  | _ => none }
def fnBigMulRow : OpenClaim := { program := "ytdemeoncjcbojaa", sum := "3ee98edaa1f67790491f87b34ba3c993b69138135ed2334adf1317f9a6235f4a", func := "loop.example/jetton/laws.FnBigMul", spec := "fnBigMul", unfollowed := true, recurses := true, apart := false }
def FnBigMulSaid : Prop := fnBigMulRow.holds Try.pinned (OpenSpec.ofChange fnBigMulSpec)

/-- ITS FALSE NEIGHBOUR: 'it returns false'. Refute it at one input. -/
def fnBigMulWrong : ChangeSpec := { name := "fnBigMul", fn := fun _ => fun
  | [d] => { results := [.lit (.bool false)], args := [d] }
  | _ => none }
def FnBigMulWrongFalsely : Prop := fnBigMulRow.holds Try.pinned (OpenSpec.ofChange fnBigMulWrong)

/-- 'laws.FnExactBigDiv': WHATEVER THE INPUT: true; the input reads as it did. -/
def fnExactBigDivSpec : ChangeSpec := { name := "fnExactBigDiv", fn := fun _ => fun
  | [d1, d2] => { results := [.lit (.bool true)], args := [d1, d2] }
  | _ => none }
def fnExactBigDivRow : OpenClaim := { program := "ytdemeoncjcbojaa", sum := "3ee98edaa1f67790491f87b34ba3c993b69138135ed2334adf1317f9a6235f4a", func := "loop.example/jetton/laws.FnExactBigDiv", spec := "fnExactBigDiv", unfollowed := true, recurses := true, apart := false }
def FnExactBigDivSaid : Prop := fnExactBigDivRow.holds Try.pinned (OpenSpec.ofChange fnExactBigDivSpec)

/-- ITS FALSE NEIGHBOUR: 'it returns false'. Refute it at one input. -/
def fnExactBigDivWrong : ChangeSpec := { name := "fnExactBigDiv", fn := fun _ => fun
  | [d1, d2] => { results := [.lit (.bool false)], args := [d1, d2] }
  | _ => none }
def FnExactBigDivWrongFalsely : Prop := fnExactBigDivRow.holds Try.pinned (OpenSpec.ofChange fnExactBigDivWrong)

/-- 'laws.FnBigAdd': WHATEVER THE INPUT: true; the input reads as it did. -/
def fnBigAddSpec : ChangeSpec := { name := "fnBigAdd", fn := fun _ => fun
  | [d] => { results := [.lit (.bool true)], args := [d] }
  | _ => none }
def fnBigAddRow : OpenClaim := { program := "ytdemeoncjcbojaa", sum := "3ee98edaa1f67790491f87b34ba3c993b69138135ed2334adf1317f9a6235f4a", func := "loop.example/jetton/laws.FnBigAdd", spec := "fnBigAdd", unfollowed := true, recurses := true, apart := false }
def FnBigAddSaid : Prop := fnBigAddRow.holds Try.pinned (OpenSpec.ofChange fnBigAddSpec)

/-- ITS FALSE NEIGHBOUR: 'it returns false'. Refute it at one input. -/
def fnBigAddWrong : ChangeSpec := { name := "fnBigAdd", fn := fun _ => fun
  | [d] => { results := [.lit (.bool false)], args := [d] }
  | _ => none }
def FnBigAddWrongFalsely : Prop := fnBigAddRow.holds Try.pinned (OpenSpec.ofChange fnBigAddWrong)

/-- 'laws.FnBigSub': WHATEVER THE INPUT: true; the input reads as it did. -/
def fnBigSubSpec : ChangeSpec := { name := "fnBigSub", fn := fun _ => fun
  | [d] => { results := [.lit (.bool true)], args := [d] }
  | _ => none }
def fnBigSubRow : OpenClaim := { program := "ytdemeoncjcbojaa", sum := "3ee98edaa1f67790491f87b34ba3c993b69138135ed2334adf1317f9a6235f4a", func := "loop.example/jetton/laws.FnBigSub", spec := "fnBigSub", unfollowed := true, recurses := true, apart := false }
def FnBigSubSaid : Prop := fnBigSubRow.holds Try.pinned (OpenSpec.ofChange fnBigSubSpec)

/-- ITS FALSE NEIGHBOUR: 'it returns false'. Refute it at one input. -/
def fnBigSubWrong : ChangeSpec := { name := "fnBigSub", fn := fun _ => fun
  | [d] => { results := [.lit (.bool false)], args := [d] }
  | _ => none }
def FnBigSubWrongFalsely : Prop := fnBigSubRow.holds Try.pinned (OpenSpec.ofChange fnBigSubWrong)

/-- 'laws.FnBigDiv': WHATEVER THE INPUT: true; the input reads as it did. -/
def fnBigDivSpec : ChangeSpec := { name := "fnBigDiv", fn := fun _ => fun
  | [d] => { results := [.lit (.bool true)], args := [d] }
  | _ => none }
def fnBigDivRow : OpenClaim := { program := "ytdemeoncjcbojaa", sum := "3ee98edaa1f67790491f87b34ba3c993b69138135ed2334adf1317f9a6235f4a", func := "loop.example/jetton/laws.FnBigDiv", spec := "fnBigDiv", unfollowed := true, recurses := true, apart := false }
def FnBigDivSaid : Prop := fnBigDivRow.holds Try.pinned (OpenSpec.ofChange fnBigDivSpec)

/-- ITS FALSE NEIGHBOUR: 'it returns false'. Refute it at one input. -/
def fnBigDivWrong : ChangeSpec := { name := "fnBigDiv", fn := fun _ => fun
  | [d] => { results := [.lit (.bool false)], args := [d] }
  | _ => none }
def FnBigDivWrongFalsely : Prop := fnBigDivRow.holds Try.pinned (OpenSpec.ofChange fnBigDivWrong)

/- THE SECOND FORM. 'bulk': how many values and letters a reading holds, each counted each time it is reached (what is shared counts as often as it is met; a slice's spare places count too). A statement '..UptoSaid' is the law's where the arguments, and the package variables that the reading takes, are together of bulk at most 1048576: NARROWER than '..Said'. Prove '..Said' where nothing that the law and all that it calls make is longer than what came in: it says more and counts as full. Else prove '..UptoSaid'. A law counts once. -/
mutual
def uptoBulk {H : Type} : DataW H → Nat
  | .lit (.string bytes) => bytes.length + 1
  | .lit _ => 1
  | .nil => 1
  | .ptr d => uptoBulk d + 1
  | .slice elems spare => uptoBulkAll elems + uptoBulkAll spare + 1
  | .agg parts => uptoBulkAll parts + 1
  | .iface _ d => uptoBulk d + 1
  | .map entries => uptoBulkEntries entries + 1
  | .held _ => 1
def uptoBulkAll {H : Type} : List (DataW H) → Nat
  | [] => 0
  | d :: r => uptoBulk d + uptoBulkAll r
def uptoBulkEntries {H : Type} : List (Lit × DataW H) → Nat
  | [] => 0
  | x :: r => uptoBulkEntry x + uptoBulkEntries r
def uptoBulkEntry {H : Type} : Lit × DataW H → Nat
  | (.string bytes, d) => bytes.length + uptoBulk d + 1
  | (_, d) => uptoBulk d + 1
 end
def uptoSmall : (H : Type) → List (DataW H) → Bool := fun _ ds => decide (uptoBulkAll ds ≤ 1048576)
def OpenSpec.upto (s : _root_.Go.ChangeSpec) : _root_.Go.OpenSpec := { _root_.Go.OpenSpec.ofChange s with cond := some uptoSmall }

/-- 'laws.FnExactBigOk', WHERE WHAT IT READS IS OF BULK AT MOST 1048576: true; the input reads as it did. -/
def fnExactBigOkUptoRow : OpenClaim := { program := "ytdemeoncjcbojaa", sum := "3ee98edaa1f67790491f87b34ba3c993b69138135ed2334adf1317f9a6235f4a", func := "loop.example/jetton/laws.FnExactBigOk", spec := "fnExactBigOk", unfollowed := true, recurses := true, apart := false, narrowed := true }
def FnExactBigOkUptoSaid : Prop := fnExactBigOkUptoRow.holds Try.pinned (OpenSpec.upto fnExactBigOkSpec)

/-- 'laws.FnExactBigOf', WHERE WHAT IT READS IS OF BULK AT MOST 1048576: true; the input reads as it did. -/
def fnExactBigOfUptoRow : OpenClaim := { program := "ytdemeoncjcbojaa", sum := "3ee98edaa1f67790491f87b34ba3c993b69138135ed2334adf1317f9a6235f4a", func := "loop.example/jetton/laws.FnExactBigOf", spec := "fnExactBigOf", apart := false, narrowed := true }
def FnExactBigOfUptoSaid : Prop := fnExactBigOfUptoRow.holds Try.pinned (OpenSpec.upto fnExactBigOfSpec)

/-- 'laws.FnExactBigTen', WHERE WHAT IT READS IS OF BULK AT MOST 1048576: true; the input reads as it did. -/
def fnExactBigTenUptoRow : OpenClaim := { program := "ytdemeoncjcbojaa", sum := "3ee98edaa1f67790491f87b34ba3c993b69138135ed2334adf1317f9a6235f4a", func := "loop.example/jetton/laws.FnExactBigTen", spec := "fnExactBigTen", apart := false, narrowed := true }
def FnExactBigTenUptoSaid : Prop := fnExactBigTenUptoRow.holds Try.pinned (OpenSpec.upto fnExactBigTenSpec)

/-- 'laws.FnBigOf', WHERE WHAT IT READS IS OF BULK AT MOST 1048576: true; the input reads as it did. -/
def fnBigOfUptoRow : OpenClaim := { program := "ytdemeoncjcbojaa", sum := "3ee98edaa1f67790491f87b34ba3c993b69138135ed2334adf1317f9a6235f4a", func := "loop.example/jetton/laws.FnBigOf", spec := "fnBigOf", unfollowed := true, recurses := true, apart := false, narrowed := true }
def FnBigOfUptoSaid : Prop := fnBigOfUptoRow.holds Try.pinned (OpenSpec.upto fnBigOfSpec)

/-- 'laws.FnExactBigCmp', WHERE WHAT IT READS IS OF BULK AT MOST 1048576: true; the input reads as it did. -/
def fnExactBigCmpUptoRow : OpenClaim := { program := "ytdemeoncjcbojaa", sum := "3ee98edaa1f67790491f87b34ba3c993b69138135ed2334adf1317f9a6235f4a", func := "loop.example/jetton/laws.FnExactBigCmp", spec := "fnExactBigCmp", unfollowed := true, recurses := true, apart := false, narrowed := true }
def FnExactBigCmpUptoSaid : Prop := fnExactBigCmpUptoRow.holds Try.pinned (OpenSpec.upto fnExactBigCmpSpec)

/-- 'laws.FnExactBigMul', WHERE WHAT IT READS IS OF BULK AT MOST 1048576: true; the input reads as it did. -/
def fnExactBigMulUptoRow : OpenClaim := { program := "ytdemeoncjcbojaa", sum := "3ee98edaa1f67790491f87b34ba3c993b69138135ed2334adf1317f9a6235f4a", func := "loop.example/jetton/laws.FnExactBigMul", spec := "fnExactBigMul", unfollowed := true, recurses := true, apart := false, narrowed := true }
def FnExactBigMulUptoSaid : Prop := fnExactBigMulUptoRow.holds Try.pinned (OpenSpec.upto fnExactBigMulSpec)

/-- 'laws.FnBigCmpThree', WHERE WHAT IT READS IS OF BULK AT MOST 1048576: true; the input reads as it did. -/
def fnBigCmpThreeUptoRow : OpenClaim := { program := "ytdemeoncjcbojaa", sum := "3ee98edaa1f67790491f87b34ba3c993b69138135ed2334adf1317f9a6235f4a", func := "loop.example/jetton/laws.FnBigCmpThree", spec := "fnBigCmpThree", unfollowed := true, recurses := true, apart := false, narrowed := true }
def FnBigCmpThreeUptoSaid : Prop := fnBigCmpThreeUptoRow.holds Try.pinned (OpenSpec.upto fnBigCmpThreeSpec)

/-- 'laws.FnBigParts', WHERE WHAT IT READS IS OF BULK AT MOST 1048576: true; the input reads as it did. -/
def fnBigPartsUptoRow : OpenClaim := { program := "ytdemeoncjcbojaa", sum := "3ee98edaa1f67790491f87b34ba3c993b69138135ed2334adf1317f9a6235f4a", func := "loop.example/jetton/laws.FnBigParts", spec := "fnBigParts", unfollowed := true, recurses := true, apart := false, narrowed := true }
def FnBigPartsUptoSaid : Prop := fnBigPartsUptoRow.holds Try.pinned (OpenSpec.upto fnBigPartsSpec)

/-- 'laws.FnExactBigAdd', WHERE WHAT IT READS IS OF BULK AT MOST 1048576: true; the input reads as it did. -/
def fnExactBigAddUptoRow : OpenClaim := { program := "ytdemeoncjcbojaa", sum := "3ee98edaa1f67790491f87b34ba3c993b69138135ed2334adf1317f9a6235f4a", func := "loop.example/jetton/laws.FnExactBigAdd", spec := "fnExactBigAdd", unfollowed := true, recurses := true, apart := false, narrowed := true }
def FnExactBigAddUptoSaid : Prop := fnExactBigAddUptoRow.holds Try.pinned (OpenSpec.upto fnExactBigAddSpec)

/-- 'laws.FnExactBigSub', WHERE WHAT IT READS IS OF BULK AT MOST 1048576: true; the input reads as it did. -/
def fnExactBigSubUptoRow : OpenClaim := { program := "ytdemeoncjcbojaa", sum := "3ee98edaa1f67790491f87b34ba3c993b69138135ed2334adf1317f9a6235f4a", func := "loop.example/jetton/laws.FnExactBigSub", spec := "fnExactBigSub", unfollowed := true, recurses := true, apart := false, narrowed := true }
def FnExactBigSubUptoSaid : Prop := fnExactBigSubUptoRow.holds Try.pinned (OpenSpec.upto fnExactBigSubSpec)

/-- 'laws.FnBigCmp', WHERE WHAT IT READS IS OF BULK AT MOST 1048576: true; the input reads as it did. -/
def fnBigCmpUptoRow : OpenClaim := { program := "ytdemeoncjcbojaa", sum := "3ee98edaa1f67790491f87b34ba3c993b69138135ed2334adf1317f9a6235f4a", func := "loop.example/jetton/laws.FnBigCmp", spec := "fnBigCmp", unfollowed := true, recurses := true, apart := false, narrowed := true }
def FnBigCmpUptoSaid : Prop := fnBigCmpUptoRow.holds Try.pinned (OpenSpec.upto fnBigCmpSpec)

/-- 'laws.FnBigMul', WHERE WHAT IT READS IS OF BULK AT MOST 1048576: true; the input reads as it did. -/
def fnBigMulUptoRow : OpenClaim := { program := "ytdemeoncjcbojaa", sum := "3ee98edaa1f67790491f87b34ba3c993b69138135ed2334adf1317f9a6235f4a", func := "loop.example/jetton/laws.FnBigMul", spec := "fnBigMul", unfollowed := true, recurses := true, apart := false, narrowed := true }
def FnBigMulUptoSaid : Prop := fnBigMulUptoRow.holds Try.pinned (OpenSpec.upto fnBigMulSpec)

/-- 'laws.FnExactBigDiv', WHERE WHAT IT READS IS OF BULK AT MOST 1048576: true; the input reads as it did. -/
def fnExactBigDivUptoRow : OpenClaim := { program := "ytdemeoncjcbojaa", sum := "3ee98edaa1f67790491f87b34ba3c993b69138135ed2334adf1317f9a6235f4a", func := "loop.example/jetton/laws.FnExactBigDiv", spec := "fnExactBigDiv", unfollowed := true, recurses := true, apart := false, narrowed := true }
def FnExactBigDivUptoSaid : Prop := fnExactBigDivUptoRow.holds Try.pinned (OpenSpec.upto fnExactBigDivSpec)

/-- 'laws.FnBigAdd', WHERE WHAT IT READS IS OF BULK AT MOST 1048576: true; the input reads as it did. -/
def fnBigAddUptoRow : OpenClaim := { program := "ytdemeoncjcbojaa", sum := "3ee98edaa1f67790491f87b34ba3c993b69138135ed2334adf1317f9a6235f4a", func := "loop.example/jetton/laws.FnBigAdd", spec := "fnBigAdd", unfollowed := true, recurses := true, apart := false, narrowed := true }
def FnBigAddUptoSaid : Prop := fnBigAddUptoRow.holds Try.pinned (OpenSpec.upto fnBigAddSpec)

/-- 'laws.FnBigSub', WHERE WHAT IT READS IS OF BULK AT MOST 1048576: true; the input reads as it did. -/
def fnBigSubUptoRow : OpenClaim := { program := "ytdemeoncjcbojaa", sum := "3ee98edaa1f67790491f87b34ba3c993b69138135ed2334adf1317f9a6235f4a", func := "loop.example/jetton/laws.FnBigSub", spec := "fnBigSub", unfollowed := true, recurses := true, apart := false, narrowed := true }
def FnBigSubUptoSaid : Prop := fnBigSubUptoRow.holds Try.pinned (OpenSpec.upto fnBigSubSpec)

/-- 'laws.FnBigDiv', WHERE WHAT IT READS IS OF BULK AT MOST 1048576: true; the input reads as it did. -/
def fnBigDivUptoRow : OpenClaim := { program := "ytdemeoncjcbojaa", sum := "3ee98edaa1f67790491f87b34ba3c993b69138135ed2334adf1317f9a6235f4a", func := "loop.example/jetton/laws.FnBigDiv", spec := "fnBigDiv", unfollowed := true, recurses := true, apart := false, narrowed := true }
def FnBigDivUptoSaid : Prop := fnBigDivUptoRow.holds Try.pinned (OpenSpec.upto fnBigDivSpec)

end Rows
end Go.Proofs.Ytdemeoncjcbojaa
