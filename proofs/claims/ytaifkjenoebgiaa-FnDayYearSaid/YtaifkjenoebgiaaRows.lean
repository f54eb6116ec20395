/-
  No cell of these rows narrows 'for every input' (looked for: loops, veiled, ifaces, maps, wideKeys, modest, calm, conditions, laid).
  DERIVED. THE GIVEN ROWS OF THIS SEAT. 12 by the template 'for every input the law returns true; each argument reads behind the call as it read before'; 0 by the template 'total and deterministic' (their statements: YtaifkjenoebgiaaTotals.lean).
  GIVEN WITH THE SEED: the statements are not yours to turn. If you find one false, say at which input.
  Laid BY PROGRAM, IN A SANDBOX (cutbox-rows.mjs): the forced cells as the released guide's own fill.sh prints them over the translation 5f8224ed4ba1bb8f… (all of the seat's roots in one cut). By AI agents, Wed Nov 11 2026. No macro, syntax, notation, axiom, sorry.
-/
import Derived.Test.YtaifkjenoebgiaaChecked
import GoSem.Claim
import GoSem.ClaimJoined
import GoSem.ClaimMapViews
import Derived.JoinedTies
import Derived.KernelRfl
namespace Go.Proofs.Ytaifkjenoebgiaa
/- THE CELL 'sum', in the pinned program and in every row, IS THE sha256 OF THE DUMP (.gsa) THAT YtaifkjenoebgiaaProg.lean LOADS. Nothing in Lean hashes anything: it is a label: what it is worth is what the hold of that sum in a sandbox is worth. -/
noncomputable def Try.pinned : Pinned := { name := "ytaifkjenoebgiaa", sum := "5f8224ed4ba1bb8f4706636d4444d762b099a2110d84c6e717cb5e533739a761", checked := Try.checked }
namespace Rows
def none {H : Type} : Left H := { results := [], args := [] }

/-- 'laws.FnExactConstants': WHATEVER THE INPUT: true; the input reads as it did. -/
def fnExactConstantsSpec : ChangeSpec := { name := "fnExactConstants", fn := fun _ => fun
  | [] => { results := [.lit (.bool true)], args := [] }
  | _ => none }
def fnExactConstantsRow : OpenClaim := { program := "ytaifkjenoebgiaa", sum := "5f8224ed4ba1bb8f4706636d4444d762b099a2110d84c6e717cb5e533739a761", func := "loop.example/jetton/laws.FnExactConstants", spec := "fnExactConstants", apart := false }
def FnExactConstantsSaid : Prop := fnExactConstantsRow.holds Try.pinned (OpenSpec.ofChange fnExactConstantsSpec)

/-- ITS FALSE NEIGHBOUR: 'it returns false'. Refute it at one input. -/
def fnExactConstantsWrong : ChangeSpec := { name := "fnExactConstants", fn := fun _ => fun
  | [] => { results := [.lit (.bool false)], args := [] }
  | _ => none }
def FnExactConstantsWrongFalsely : Prop := fnExactConstantsRow.holds Try.pinned (OpenSpec.ofChange fnExactConstantsWrong)

/-- 'laws.FnExactSpanOk': WHATEVER THE INPUT: true; the input reads as it did. -/
def fnExactSpanOkSpec : ChangeSpec := { name := "fnExactSpanOk", fn := fun _ => fun
  | [d] => { results := [.lit (.bool true)], args := [d] }
  | _ => none }
def fnExactSpanOkRow : OpenClaim := { program := "ytaifkjenoebgiaa", sum := "5f8224ed4ba1bb8f4706636d4444d762b099a2110d84c6e717cb5e533739a761", func := "loop.example/jetton/laws.FnExactSpanOk", spec := "fnExactSpanOk", apart := false }
def FnExactSpanOkSaid : Prop := fnExactSpanOkRow.holds Try.pinned (OpenSpec.ofChange fnExactSpanOkSpec)

/-- ITS FALSE NEIGHBOUR: 'it returns false'. Refute it at one input. -/
def fnExactSpanOkWrong : ChangeSpec := { name := "fnExactSpanOk", fn := fun _ => fun
  | [d] => { results := [.lit (.bool false)], args := [d] }
  | _ => none }
def FnExactSpanOkWrongFalsely : Prop := fnExactSpanOkRow.holds Try.pinned (OpenSpec.ofChange fnExactSpanOkWrong)

/-- 'laws.FnExactDayWeek': WHATEVER THE INPUT: true; the input reads as it did. -/
def fnExactDayWeekSpec : ChangeSpec := { name := "fnExactDayWeek", fn := fun _ => fun
  | [d] => { results := [.lit (.bool true)], args := [d] }
  | _ => none }
def fnExactDayWeekRow : OpenClaim := { program := "ytaifkjenoebgiaa", sum := "5f8224ed4ba1bb8f4706636d4444d762b099a2110d84c6e717cb5e533739a761", func := "loop.example/jetton/laws.FnExactDayWeek", spec := "fnExactDayWeek", apart := false }
def FnExactDayWeekSaid : Prop := fnExactDayWeekRow.holds Try.pinned (OpenSpec.ofChange fnExactDayWeekSpec)

/-- ITS FALSE NEIGHBOUR: 'it returns false'. Refute it at one input. -/
def fnExactDayWeekWrong : ChangeSpec := { name := "fnExactDayWeek", fn := fun _ => fun
  | [d] => { results := [.lit (.bool false)], args := [d] }
  | _ => none }
def FnExactDayWeekWrongFalsely : Prop := fnExactDayWeekRow.holds Try.pinned (OpenSpec.ofChange fnExactDayWeekWrong)

/-- 'laws.FnExactTruthNot': WHATEVER THE INPUT: true; the input reads as it did. -/
def fnExactTruthNotSpec : ChangeSpec := { name := "fnExactTruthNot", fn := fun _ => fun
  | [d] => { results := [.lit (.bool true)], args := [d] }
  | _ => none }
def fnExactTruthNotRow : OpenClaim := { program := "ytaifkjenoebgiaa", sum := "5f8224ed4ba1bb8f4706636d4444d762b099a2110d84c6e717cb5e533739a761", func := "loop.example/jetton/laws.FnExactTruthNot", spec := "fnExactTruthNot", apart := false }
def FnExactTruthNotSaid : Prop := fnExactTruthNotRow.holds Try.pinned (OpenSpec.ofChange fnExactTruthNotSpec)

/-- ITS FALSE NEIGHBOUR: 'it returns false'. Refute it at one input. -/
def fnExactTruthNotWrong : ChangeSpec := { name := "fnExactTruthNot", fn := fun _ => fun
  | [d] => { results := [.lit (.bool false)], args := [d] }
  | _ => none }
def FnExactTruthNotWrongFalsely : Prop := fnExactTruthNotRow.holds Try.pinned (OpenSpec.ofChange fnExactTruthNotWrong)

/-- 'laws.FnExactTypeOk': WHATEVER THE INPUT: true; the input reads as it did. -/
def fnExactTypeOkSpec : ChangeSpec := { name := "fnExactTypeOk", fn := fun _ => fun
  | [d] => { results := [.lit (.bool true)], args := [d] }
  | _ => none }
def fnExactTypeOkRow : OpenClaim := { program := "ytaifkjenoebgiaa", sum := "5f8224ed4ba1bb8f4706636d4444d762b099a2110d84c6e717cb5e533739a761", func := "loop.example/jetton/laws.FnExactTypeOk", spec := "fnExactTypeOk", apart := false }
def FnExactTypeOkSaid : Prop := fnExactTypeOkRow.holds Try.pinned (OpenSpec.ofChange fnExactTypeOkSpec)

/-- ITS FALSE NEIGHBOUR: 'it returns false'. Refute it at one input. -/
def fnExactTypeOkWrong : ChangeSpec := { name := "fnExactTypeOk", fn := fun _ => fun
  | [d] => { results := [.lit (.bool false)], args := [d] }
  | _ => none }
def FnExactTypeOkWrongFalsely : Prop := fnExactTypeOkRow.holds Try.pinned (OpenSpec.ofChange fnExactTypeOkWrong)

/-- 'laws.FnExactTruthAnd': WHATEVER THE INPUT: true; the input reads as it did. -/
def fnExactTruthAndSpec : ChangeSpec := { name := "fnExactTruthAnd", fn := fun _ => fun
  | [d1, d2] => { results := [.lit (.bool true)], args := [d1, d2] }
  | _ => none }
def fnExactTruthAndRow : OpenClaim := { program := "ytaifkjenoebgiaa", sum := "5f8224ed4ba1bb8f4706636d4444d762b099a2110d84c6e717cb5e533739a761", func := "loop.example/jetton/laws.FnExactTruthAnd", spec := "fnExactTruthAnd", apart := false }
def FnExactTruthAndSaid : Prop := fnExactTruthAndRow.holds Try.pinned (OpenSpec.ofChange fnExactTruthAndSpec)

/-- ITS FALSE NEIGHBOUR: 'it returns false'. Refute it at one input. -/
def fnExactTruthAndWrong : ChangeSpec := { name := "fnExactTruthAnd", fn := fun _ => fun
  | [d1, d2] => { results := [.lit (.bool false)], args := [d1, d2] }
  | _ => none }
def FnExactTruthAndWrongFalsely : Prop := fnExactTruthAndRow.holds Try.pinned (OpenSpec.ofChange fnExactTruthAndWrong)

/-- 'laws.FnExactDayLast': WHATEVER THE INPUT: true; the input reads as it did. -/
def fnExactDayLastSpec : ChangeSpec := { name := "fnExactDayLast", fn := fun _ => fun
  | [d1, d2] => { results := [.lit (.bool true)], args := [d1, d2] }
  | _ => none }
def fnExactDayLastRow : OpenClaim := { program := "ytaifkjenoebgiaa", sum := "5f8224ed4ba1bb8f4706636d4444d762b099a2110d84c6e717cb5e533739a761", func := "loop.example/jetton/laws.FnExactDayLast", spec := "fnExactDayLast", apart := false }
def FnExactDayLastSaid : Prop := fnExactDayLastRow.holds Try.pinned (OpenSpec.ofChange fnExactDayLastSpec)

/-- ITS FALSE NEIGHBOUR: 'it returns false'. Refute it at one input. -/
def fnExactDayLastWrong : ChangeSpec := { name := "fnExactDayLast", fn := fun _ => fun
  | [d1, d2] => { results := [.lit (.bool false)], args := [d1, d2] }
  | _ => none }
def FnExactDayLastWrongFalsely : Prop := fnExactDayLastRow.holds Try.pinned (OpenSpec.ofChange fnExactDayLastWrong)

/-- 'laws.FnExactTruthOr': WHATEVER THE INPUT: true; the input reads as it did. -/
def fnExactTruthOrSpec : ChangeSpec := { name := "fnExactTruthOr", fn := fun _ => fun
  | [d1, d2] => { results := [.lit (.bool true)], args := [d1, d2] }
  | _ => none }
def fnExactTruthOrRow : OpenClaim := { program := "ytaifkjenoebgiaa", sum := "5f8224ed4ba1bb8f4706636d4444d762b099a2110d84c6e717cb5e533739a761", func := "loop.example/jetton/laws.FnExactTruthOr", spec := "fnExactTruthOr", apart := false }
def FnExactTruthOrSaid : Prop := fnExactTruthOrRow.holds Try.pinned (OpenSpec.ofChange fnExactTruthOrSpec)

/-- ITS FALSE NEIGHBOUR: 'it returns false'. Refute it at one input. -/
def fnExactTruthOrWrong : ChangeSpec := { name := "fnExactTruthOr", fn := fun _ => fun
  | [d1, d2] => { results := [.lit (.bool false)], args := [d1, d2] }
  | _ => none }
def FnExactTruthOrWrongFalsely : Prop := fnExactTruthOrRow.holds Try.pinned (OpenSpec.ofChange fnExactTruthOrWrong)

/-- 'laws.FnExactDayOf': WHATEVER THE INPUT: true; the input reads as it did. -/
def fnExactDayOfSpec : ChangeSpec := { name := "fnExactDayOf", fn := fun _ => fun
  | [d1, d2, d3] => { results := [.lit (.bool true)], args := [d1, d2, d3] }
  | _ => none }
def fnExactDayOfRow : OpenClaim := { program := "ytaifkjenoebgiaa", sum := "5f8224ed4ba1bb8f4706636d4444d762b099a2110d84c6e717cb5e533739a761", func := "loop.example/jetton/laws.FnExactDayOf", spec := "fnExactDayOf", apart := false }
def FnExactDayOfSaid : Prop := fnExactDayOfRow.holds Try.pinned (OpenSpec.ofChange fnExactDayOfSpec)

/-- ITS FALSE NEIGHBOUR: 'it returns false'. Refute it at one input. -/
def fnExactDayOfWrong : ChangeSpec := { name := "fnExactDayOf", fn := fun _ => fun
  | [d1, d2, d3] => { results := [.lit (.bool false)], args := [d1, d2, d3] }
  | _ => none }
def FnExactDayOfWrongFalsely : Prop := fnExactDayOfRow.holds Try.pinned (OpenSpec.ofChange fnExactDayOfWrong)

/-- 'laws.FnDayYear': WHATEVER THE INPUT: true; the input reads as it did. -/
def fnDayYearSpec : ChangeSpec := { name := "fnDayYear", fn := fun _ => fun
  | [d] => { results := [.lit (.bool true)], args := [d] }
  | _ => none }
def fnDayYearRow : OpenClaim := { program := "ytaifkjenoebgiaa", sum := "5f8224ed4ba1bb8f4706636d4444d762b099a2110d84c6e717cb5e533739a761", func := "loop.example/jetton/laws.FnDayYear", spec := "fnDayYear", apart := false }
def FnDayYearSaid : Prop := fnDayYearRow.holds Try.pinned (OpenSpec.ofChange fnDayYearSpec)

/-- ITS FALSE NEIGHBOUR: 'it returns false'. Refute it at one input. -/
def fnDayYearWrong : ChangeSpec := { name := "fnDayYear", fn := fun _ => fun
  | [d] => { results := [.lit (.bool false)], args := [d] }
  | _ => none }
def FnDayYearWrongFalsely : Prop := fnDayYearRow.holds Try.pinned (OpenSpec.ofChange fnDayYearWrong)

/-- 'laws.FnTruth': WHATEVER THE INPUT: true; the input reads as it did. -/
def fnTruthSpec : ChangeSpec := { name := "fnTruth", fn := fun _ => fun
  | [d] => { results := [.lit (.bool true)], args := [d] }
  | _ => none }
def fnTruthRow : OpenClaim := { program := "ytaifkjenoebgiaa", sum := "5f8224ed4ba1bb8f4706636d4444d762b099a2110d84c6e717cb5e533739a761", func := "loop.example/jetton/laws.FnTruth", spec := "fnTruth", apart := false }
def FnTruthSaid : Prop := fnTruthRow.holds Try.pinned (OpenSpec.ofChange fnTruthSpec)

/-- ITS FALSE NEIGHBOUR: 'it returns false'. Refute it at one input. -/
def fnTruthWrong : ChangeSpec := { name := "fnTruth", fn := fun _ => fun
  | [d] => { results := [.lit (.bool false)], args := [d] }
  | _ => none }
def FnTruthWrongFalsely : Prop := fnTruthRow.holds Try.pinned (OpenSpec.ofChange fnTruthWrong)

/-- 'laws.FnTruthThree': WHATEVER THE INPUT: true; the input reads as it did. -/
def fnTruthThreeSpec : ChangeSpec := { name := "fnTruthThree", fn := fun _ => fun
  | [d1, d2] => { results := [.lit (.bool true)], args := [d1, d2] }
  | _ => none }
def fnTruthThreeRow : OpenClaim := { program := "ytaifkjenoebgiaa", sum := "5f8224ed4ba1bb8f4706636d4444d762b099a2110d84c6e717cb5e533739a761", func := "loop.example/jetton/laws.FnTruthThree", spec := "fnTruthThree", apart := false }
def FnTruthThreeSaid : Prop := fnTruthThreeRow.holds Try.pinned (OpenSpec.ofChange fnTruthThreeSpec)

/-- ITS FALSE NEIGHBOUR: 'it returns false'. Refute it at one input. -/
def fnTruthThreeWrong : ChangeSpec := { name := "fnTruthThree", fn := fun _ => fun
  | [d1, d2] => { results := [.lit (.bool false)], args := [d1, d2] }
  | _ => none }
def FnTruthThreeWrongFalsely : Prop := fnTruthThreeRow.holds Try.pinned (OpenSpec.ofChange fnTruthThreeWrong)

/- THE SECOND FORM. 'bulk': how many values and letters a reading holds, each counted each time it is reached (what is shared counts as often as it is met; a slice's spare places count too). A statement '..UptoSaid' is the law's where the arguments, and the package variables that the reading takes, are together of bulk at most 1048576: NARROWER than '..Said'. Prove '..Said' where nothing that the law and all that it calls make is longer than what came in: it says more and counts as full. Else prove '..UptoSaid'. A law counts once. -/
mutual
def uptoBulk {H : Type} : DataW H → Nat
  | .lit (.string bytes) => bytes.length + 1
  | .lit _ => 1
  | .nil => 1
  | .ptr d => uptoBulk d + 1
  | .slice elems spare => uptoBulkAll elems + uptoBulkAll spare + 1
  | .agg parts => uptoBulkAll parts + 1
  | .iface _ d => uptoBulk d + 1
  | .map entries => uptoBulkEntries entries + 1
  | .held _ => 1
def uptoBulkAll {H : Type} : List (DataW H) → Nat
  | [] => 0
  | d :: r => uptoBulk d + uptoBulkAll r
def uptoBulkEntries {H : Type} : List (Lit × DataW H) → Nat
  | [] => 0
  | x :: r => uptoBulkEntry x + uptoBulkEntries r
def uptoBulkEntry {H : Type} : Lit × DataW H → Nat
  | (.string bytes, d) => bytes.length + uptoBulk d + 1
  | (_, d) => uptoBulk d + 1
 end
def uptoSmall : (H : Type) → List (DataW H) → Bool := fun _ ds => decide (uptoBulkAll ds ≤ 1048576)
def OpenSpec.upto (s : _root_.Go.ChangeSpec) : _root_.Go.OpenSpec := { _root_.Go.OpenSpec.ofChange s with cond := some uptoSmall }

/-- 'laws.FnExactConstants', WHERE WHAT IT READS IS OF BULK AT MOST 1048576: true; the input reads as it did. -/
def fnExactConstantsUptoRow : OpenClaim := { program := "ytaifkjenoebgiaa", sum := "5f8224ed4ba1bb8f4706636d4444d762b099a2110d84c6e717cb5e533739a761", func := "loop.example/jetton/laws.FnExactConstants", spec := "fnExactConstants", apart := false, narrowed := true }
def FnExactConstantsUptoSaid : Prop := fnExactConstantsUptoRow.holds Try.pinned (OpenSpec.upto fnExactConstantsSpec)

/-- 'laws.FnExactSpanOk', WHERE WHAT IT READS IS OF BULK AT MOST 1048576: true; the input reads as it did. -/
def fnExactSpanOkUptoRow : OpenClaim := { program := "ytaifkjenoebgiaa", sum := "5f8224ed4ba1bb8f4706636d4444d762b099a2110d84c6e717cb5e533739a761", func := "loop.example/jetton/laws.FnExactSpanOk", spec := "fnExactSpanOk", apart := false, narrowed := true }
def FnExactSpanOkUptoSaid : Prop := fnExactSpanOkUptoRow.holds Try.pinned (OpenSpec.upto fnExactSpanOkSpec)

/-- 'laws.FnExactDayWeek', WHERE WHAT IT READS IS OF BULK AT MOST 1048576: true; the input reads as it did. -/
def fnExactDayWeekUptoRow : OpenClaim := { program := "ytaifkjenoebgiaa", sum := "5f8224ed4ba1bb8f4706636d4444d762b099a2110d84c6e717cb5e533739a761", func := "loop.example/jetton/laws.FnExactDayWeek", spec := "fnExactDayWeek", apart := false, narrowed := true }
def FnExactDayWeekUptoSaid : Prop := fnExactDayWeekUptoRow.holds Try.pinned (OpenSpec.upto fnExactDayWeekSpec)

/-- 'laws.FnExactTruthNot', WHERE WHAT IT READS IS OF BULK AT MOST 1048576: true; the input reads as it did. -/
def fnExactTruthNotUptoRow : OpenClaim := { program := "ytaifkjenoebgiaa", sum := "5f8224ed4ba1bb8f4706636d4444d762b099a2110d84c6e717cb5e533739a761", func := "loop.example/jetton/laws.FnExactTruthNot", spec := "fnExactTruthNot", apart := false, narrowed := true }
def FnExactTruthNotUptoSaid : Prop := fnExactTruthNotUptoRow.holds Try.pinned (OpenSpec.upto fnExactTruthNotSpec)

/-- 'laws.FnExactTypeOk', WHERE WHAT IT READS IS OF BULK AT MOST 1048576: true; the input reads as it did. -/
def fnExactTypeOkUptoRow : OpenClaim := { program := "ytaifkjenoebgiaa", sum := "5f8224ed4ba1bb8f4706636d4444d762b099a2110d84c6e717cb5e533739a761", func := "loop.example/jetton/laws.FnExactTypeOk", spec := "fnExactTypeOk", apart := false, narrowed := true }
def FnExactTypeOkUptoSaid : Prop := fnExactTypeOkUptoRow.holds Try.pinned (OpenSpec.upto fnExactTypeOkSpec)

/-- 'laws.FnExactTruthAnd', WHERE WHAT IT READS IS OF BULK AT MOST 1048576: true; the input reads as it did. -/
def fnExactTruthAndUptoRow : OpenClaim := { program := "ytaifkjenoebgiaa", sum := "5f8224ed4ba1bb8f4706636d4444d762b099a2110d84c6e717cb5e533739a761", func := "loop.example/jetton/laws.FnExactTruthAnd", spec := "fnExactTruthAnd", apart := false, narrowed := true }
def FnExactTruthAndUptoSaid : Prop := fnExactTruthAndUptoRow.holds Try.pinned (OpenSpec.upto fnExactTruthAndSpec)

/-- 'laws.FnExactDayLast', WHERE WHAT IT READS IS OF BULK AT MOST 1048576: true; the input reads as it did. -/
def fnExactDayLastUptoRow : OpenClaim := { program := "ytaifkjenoebgiaa", sum := "5f8224ed4ba1bb8f4706636d4444d762b099a2110d84c6e717cb5e533739a761", func := "loop.example/jetton/laws.FnExactDayLast", spec := "fnExactDayLast", apart := false, narrowed := true }
def FnExactDayLastUptoSaid : Prop := fnExactDayLastUptoRow.holds Try.pinned (OpenSpec.upto fnExactDayLastSpec)

/-- 'laws.FnExactTruthOr', WHERE WHAT IT READS IS OF BULK AT MOST 1048576: true; the input reads as it did. -/
def fnExactTruthOrUptoRow : OpenClaim := { program := "ytaifkjenoebgiaa", sum := "5f8224ed4ba1bb8f4706636d4444d762b099a2110d84c6e717cb5e533739a761", func := "loop.example/jetton/laws.FnExactTruthOr", spec := "fnExactTruthOr", apart := false, narrowed := true }
def FnExactTruthOrUptoSaid : Prop := fnExactTruthOrUptoRow.holds Try.pinned (OpenSpec.upto fnExactTruthOrSpec)

/-- 'laws.FnExactDayOf', WHERE WHAT IT READS IS OF BULK AT MOST 1048576: true; the input reads as it did. -/
def fnExactDayOfUptoRow : OpenClaim := { program := "ytaifkjenoebgiaa", sum := "5f8224ed4ba1bb8f4706636d4444d762b099a2110d84c6e717cb5e533739a761", func := "loop.example/jetton/laws.FnExactDayOf", spec := "fnExactDayOf", apart := false, narrowed := true }
def FnExactDayOfUptoSaid : Prop := fnExactDayOfUptoRow.holds Try.pinned (OpenSpec.upto fnExactDayOfSpec)

/-- 'laws.FnDayYear', WHERE WHAT IT READS IS OF BULK AT MOST 1048576: true; the input reads as it did. -/
def fnDayYearUptoRow : OpenClaim := { program := "ytaifkjenoebgiaa", sum := "5f8224ed4ba1bb8f4706636d4444d762b099a2110d84c6e717cb5e533739a761", func := "loop.example/jetton/laws.FnDayYear", spec := "fnDayYear", apart := false, narrowed := true }
def FnDayYearUptoSaid : Prop := fnDayYearUptoRow.holds Try.pinned (OpenSpec.upto fnDayYearSpec)

/-- 'laws.FnTruth', WHERE WHAT IT READS IS OF BULK AT MOST 1048576: true; the input reads as it did. -/
def fnTruthUptoRow : OpenClaim := { program := "ytaifkjenoebgiaa", sum := "5f8224ed4ba1bb8f4706636d4444d762b099a2110d84c6e717cb5e533739a761", func := "loop.example/jetton/laws.FnTruth", spec := "fnTruth", apart := false, narrowed := true }
def FnTruthUptoSaid : Prop := fnTruthUptoRow.holds Try.pinned (OpenSpec.upto fnTruthSpec)

/-- 'laws.FnTruthThree', WHERE WHAT IT READS IS OF BULK AT MOST 1048576: true; the input reads as it did. -/
def fnTruthThreeUptoRow : OpenClaim := { program := "ytaifkjenoebgiaa", sum := "5f8224ed4ba1bb8f4706636d4444d762b099a2110d84c6e717cb5e533739a761", func := "loop.example/jetton/laws.FnTruthThree", spec := "fnTruthThree", apart := false, narrowed := true }
def FnTruthThreeUptoSaid : Prop := fnTruthThreeUptoRow.holds Try.pinned (OpenSpec.upto fnTruthThreeSpec)

end Rows
end Go.Proofs.Ytaifkjenoebgiaa
