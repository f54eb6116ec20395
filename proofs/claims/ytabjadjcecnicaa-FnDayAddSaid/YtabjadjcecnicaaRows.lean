/-
  No cell of these rows narrows 'for every input' (looked for: loops, veiled, ifaces, maps, wideKeys, modest, calm, conditions, laid).
  DERIVED. THE GIVEN ROWS OF THIS SEAT. 8 by the template 'for every input the law returns true; each argument reads behind the call as it read before'; 0 by the template 'total and deterministic' (their statements: YtabjadjcecnicaaTotals.lean).
  GIVEN WITH THE SEED: the statements are not yours to turn. If you find one false, say at which input.
  Laid BY PROGRAM, IN A SANDBOX (cutbox-rows.mjs): the forced cells as the released guide's own fill.sh prints them over the translation 007d2761f055cdc3… (all of the seat's roots in one cut). By AI agents, Wed Nov 11 2026. No macro, syntax, notation, axiom, sorry.
-/
import Derived.Test.YtabjadjcecnicaaChecked
import GoSem.Claim
import GoSem.ClaimJoined
import GoSem.ClaimMapViews
import Derived.JoinedTies
import Derived.KernelRfl
namespace Go.Proofs.Ytabjadjcecnicaa
/- THE CELL 'sum', in the pinned program and in every row, IS THE sha256 OF THE DUMP (.gsa) THAT YtabjadjcecnicaaProg.lean LOADS. Nothing in Lean hashes anything: it is a label: what it is worth is what the hold of that sum in a sandbox is worth. -/
noncomputable def Try.pinned : Pinned := { name := "ytabjadjcecnicaa", sum := "007d2761f055cdc3c89b072610bfbd2722a821727719178abaab22778dc06650", checked := Try.checked }
namespace Rows
def none {H : Type} : Left H := { results := [], args := [] }

/-- 'laws.FnExactDayParts': WHATEVER THE INPUT: true; the input reads as it did. -/
def fnExactDayPartsSpec : ChangeSpec := { name := "fnExactDayParts", fn := fun _ => fun
  | [d] => { results := [.lit (.bool true)], args := [d] }
  | _ => none }
def fnExactDayPartsRow : OpenClaim := { program := "ytabjadjcecnicaa", sum := "007d2761f055cdc3c89b072610bfbd2722a821727719178abaab22778dc06650", func := "loop.example/jetton/laws.FnExactDayParts", spec := "fnExactDayParts", apart := false }
def FnExactDayPartsSaid : Prop := fnExactDayPartsRow.holds Try.pinned (OpenSpec.ofChange fnExactDayPartsSpec)

/-- ITS FALSE NEIGHBOUR: 'it returns false'. Refute it at one input. -/
def fnExactDayPartsWrong : ChangeSpec := { name := "fnExactDayParts", fn := fun _ => fun
  | [d] => { results := [.lit (.bool false)], args := [d] }
  | _ => none }
def FnExactDayPartsWrongFalsely : Prop := fnExactDayPartsRow.holds Try.pinned (OpenSpec.ofChange fnExactDayPartsWrong)

/-- 'laws.FnDayNext': WHATEVER THE INPUT: true; the input reads as it did. -/
def fnDayNextSpec : ChangeSpec := { name := "fnDayNext", fn := fun _ => fun
  | [d] => { results := [.lit (.bool true)], args := [d] }
  | _ => none }
def fnDayNextRow : OpenClaim := { program := "ytabjadjcecnicaa", sum := "007d2761f055cdc3c89b072610bfbd2722a821727719178abaab22778dc06650", func := "loop.example/jetton/laws.FnDayNext", spec := "fnDayNext", apart := false }
def FnDayNextSaid : Prop := fnDayNextRow.holds Try.pinned (OpenSpec.ofChange fnDayNextSpec)

/-- ITS FALSE NEIGHBOUR: 'it returns false'. Refute it at one input. -/
def fnDayNextWrong : ChangeSpec := { name := "fnDayNext", fn := fun _ => fun
  | [d] => { results := [.lit (.bool false)], args := [d] }
  | _ => none }
def FnDayNextWrongFalsely : Prop := fnDayNextRow.holds Try.pinned (OpenSpec.ofChange fnDayNextWrong)

/-- 'laws.FnExactDayAdd': WHATEVER THE INPUT: true; the input reads as it did. -/
def fnExactDayAddSpec : ChangeSpec := { name := "fnExactDayAdd", fn := fun _ => fun
  | [d1, d2] => { results := [.lit (.bool true)], args := [d1, d2] }
  | _ => none }
def fnExactDayAddRow : OpenClaim := { program := "ytabjadjcecnicaa", sum := "007d2761f055cdc3c89b072610bfbd2722a821727719178abaab22778dc06650", func := "loop.example/jetton/laws.FnExactDayAdd", spec := "fnExactDayAdd", apart := false }
def FnExactDayAddSaid : Prop := fnExactDayAddRow.holds Try.pinned (OpenSpec.ofChange fnExactDayAddSpec)

/-- ITS FALSE NEIGHBOUR: 'it returns false'. Refute it at one input. -/
def fnExactDayAddWrong : ChangeSpec := { name := "fnExactDayAdd", fn := fun _ => fun
  | [d1, d2] => { results := [.lit (.bool false)], args := [d1, d2] }
  | _ => none }
def FnExactDayAddWrongFalsely : Prop := fnExactDayAddRow.holds Try.pinned (OpenSpec.ofChange fnExactDayAddWrong)

/-- 'laws.FnDayParts': WHATEVER THE INPUT: true; the input reads as it did. -/
def fnDayPartsSpec : ChangeSpec := { name := "fnDayParts", fn := fun _ => fun
  | [d1, d2] => { results := [.lit (.bool true)], args := [d1, d2] }
  | _ => none }
def fnDayPartsRow : OpenClaim := { program := "ytabjadjcecnicaa", sum := "007d2761f055cdc3c89b072610bfbd2722a821727719178abaab22778dc06650", func := "loop.example/jetton/laws.FnDayParts", spec := "fnDayParts", apart := false }
def FnDayPartsSaid : Prop := fnDayPartsRow.holds Try.pinned (OpenSpec.ofChange fnDayPartsSpec)

/-- ITS FALSE NEIGHBOUR: 'it returns false'. Refute it at one input. -/
def fnDayPartsWrong : ChangeSpec := { name := "fnDayParts", fn := fun _ => fun
  | [d1, d2] => { results := [.lit (.bool false)], args := [d1, d2] }
  | _ => none }
def FnDayPartsWrongFalsely : Prop := fnDayPartsRow.holds Try.pinned (OpenSpec.ofChange fnDayPartsWrong)

/-- 'laws.FnExactDayUntil': WHATEVER THE INPUT: true; the input reads as it did. -/
def fnExactDayUntilSpec : ChangeSpec := { name := "fnExactDayUntil", fn := fun _ => fun
  | [d1, d2] => { results := [.lit (.bool true)], args := [d1, d2] }
  | _ => none }
def fnExactDayUntilRow : OpenClaim := { program := "ytabjadjcecnicaa", sum := "007d2761f055cdc3c89b072610bfbd2722a821727719178abaab22778dc06650", func := "loop.example/jetton/laws.FnExactDayUntil", spec := "fnExactDayUntil", apart := false }
def FnExactDayUntilSaid : Prop := fnExactDayUntilRow.holds Try.pinned (OpenSpec.ofChange fnExactDayUntilSpec)

/-- ITS FALSE NEIGHBOUR: 'it returns false'. Refute it at one input. -/
def fnExactDayUntilWrong : ChangeSpec := { name := "fnExactDayUntil", fn := fun _ => fun
  | [d1, d2] => { results := [.lit (.bool false)], args := [d1, d2] }
  | _ => none }
def FnExactDayUntilWrongFalsely : Prop := fnExactDayUntilRow.holds Try.pinned (OpenSpec.ofChange fnExactDayUntilWrong)

/-- 'laws.FnDayAdd': WHATEVER THE INPUT: true; the input reads as it did. -/
def fnDayAddSpec : ChangeSpec := { name := "fnDayAdd", fn := fun _ => fun
  | [d] => { results := [.lit (.bool true)], args := [d] }
  | _ => none }
def fnDayAddRow : OpenClaim := { program := "ytabjadjcecnicaa", sum := "007d2761f055cdc3c89b072610bfbd2722a821727719178abaab22778dc06650", func := "loop.example/jetton/laws.FnDayAdd", spec := "fnDayAdd", apart := false }
def FnDayAddSaid : Prop := fnDayAddRow.holds Try.pinned (OpenSpec.ofChange fnDayAddSpec)

/-- ITS FALSE NEIGHBOUR: 'it returns false'. Refute it at one input. -/
def fnDayAddWrong : ChangeSpec := { name := "fnDayAdd", fn := fun _ => fun
  | [d] => { results := [.lit (.bool false)], args := [d] }
  | _ => none }
def FnDayAddWrongFalsely : Prop := fnDayAddRow.holds Try.pinned (OpenSpec.ofChange fnDayAddWrong)

/-- 'laws.FnDayBack': WHATEVER THE INPUT: true; the input reads as it did. -/
def fnDayBackSpec : ChangeSpec := { name := "fnDayBack", fn := fun _ => fun
  | [d] => { results := [.lit (.bool true)], args := [d] }
  | _ => none }
def fnDayBackRow : OpenClaim := { program := "ytabjadjcecnicaa", sum := "007d2761f055cdc3c89b072610bfbd2722a821727719178abaab22778dc06650", func := "loop.example/jetton/laws.FnDayBack", spec := "fnDayBack", apart := false }
def FnDayBackSaid : Prop := fnDayBackRow.holds Try.pinned (OpenSpec.ofChange fnDayBackSpec)

/-- ITS FALSE NEIGHBOUR: 'it returns false'. Refute it at one input. -/
def fnDayBackWrong : ChangeSpec := { name := "fnDayBack", fn := fun _ => fun
  | [d] => { results := [.lit (.bool false)], args := [d] }
  | _ => none }
def FnDayBackWrongFalsely : Prop := fnDayBackRow.holds Try.pinned (OpenSpec.ofChange fnDayBackWrong)

/-- 'laws.FnDayUntil': WHATEVER THE INPUT: true; the input reads as it did. -/
def fnDayUntilSpec : ChangeSpec := { name := "fnDayUntil", fn := fun _ => fun
  | [d] => { results := [.lit (.bool true)], args := [d] }
  | _ => none }
def fnDayUntilRow : OpenClaim := { program := "ytabjadjcecnicaa", sum := "007d2761f055cdc3c89b072610bfbd2722a821727719178abaab22778dc06650", func := "loop.example/jetton/laws.FnDayUntil", spec := "fnDayUntil", apart := false }
def FnDayUntilSaid : Prop := fnDayUntilRow.holds Try.pinned (OpenSpec.ofChange fnDayUntilSpec)

/-- ITS FALSE NEIGHBOUR: 'it returns false'. Refute it at one input. -/
def fnDayUntilWrong : ChangeSpec := { name := "fnDayUntil", fn := fun _ => fun
  | [d] => { results := [.lit (.bool false)], args := [d] }
  | _ => none }
def FnDayUntilWrongFalsely : Prop := fnDayUntilRow.holds Try.pinned (OpenSpec.ofChange fnDayUntilWrong)

/- THE SECOND FORM. 'bulk': how many values and letters a reading holds, each counted each time it is reached (what is shared counts as often as it is met; a slice's spare places count too). A statement '..UptoSaid' is the law's where the arguments, and the package variables that the reading takes, are together of bulk at most 1048576: NARROWER than '..Said'. Prove '..Said' where nothing that the law and all that it calls make is longer than what came in: it says more and counts as full. Else prove '..UptoSaid'. A law counts once. -/
mutual
def uptoBulk {H : Type} : DataW H → Nat
  | .lit (.string bytes) => bytes.length + 1
  | .lit _ => 1
  | .nil => 1
  | .ptr d => uptoBulk d + 1
  | .slice elems spare => uptoBulkAll elems + uptoBulkAll spare + 1
  | .agg parts => uptoBulkAll parts + 1
  | .iface _ d => uptoBulk d + 1
  | .map entries => uptoBulkEntries entries + 1
  | .held _ => 1
def uptoBulkAll {H : Type} : List (DataW H) → Nat
  | [] => 0
  | d :: r => uptoBulk d + uptoBulkAll r
def uptoBulkEntries {H : Type} : List (Lit × DataW H) → Nat
  | [] => 0
  | x :: r => uptoBulkEntry x + uptoBulkEntries r
def uptoBulkEntry {H : Type} : Lit × DataW H → Nat
  | (.string bytes, d) => bytes.length + uptoBulk d + 1
  | (_, d) => uptoBulk d + 1
 end
def uptoSmall : (H : Type) → List (DataW H) → Bool := fun _ ds => decide (uptoBulkAll ds ≤ 1048576)
def OpenSpec.upto (s : _root_.Go.ChangeSpec) : _root_.Go.OpenSpec := { _root_.Go.OpenSpec.ofChange s with cond := some uptoSmall }

/-- 'laws.FnExactDayParts', WHERE WHAT IT READS IS OF BULK AT MOST 1048576: true; the input reads as it did. -/
def fnExactDayPartsUptoRow : OpenClaim := { program := "ytabjadjcecnicaa", sum := "007d2761f055cdc3c89b072610bfbd2722a821727719178abaab22778dc06650", func := "loop.example/jetton/laws.FnExactDayParts", spec := "fnExactDayParts", apart := false, narrowed := true }
def FnExactDayPartsUptoSaid : Prop := fnExactDayPartsUptoRow.holds Try.pinned (OpenSpec.upto fnExactDayPartsSpec)

/-- 'laws.FnDayNext', WHERE WHAT IT READS IS OF BULK AT MOST 1048576: true; the input reads as it did. -/
def fnDayNextUptoRow : OpenClaim := { program := "ytabjadjcecnicaa", sum := "007d2761f055cdc3c89b072610bfbd2722a821727719178abaab22778dc06650", func := "loop.example/jetton/laws.FnDayNext", spec := "fnDayNext", apart := false, narrowed := true }
def FnDayNextUptoSaid : Prop := fnDayNextUptoRow.holds Try.pinned (OpenSpec.upto fnDayNextSpec)

/-- 'laws.FnExactDayAdd', WHERE WHAT IT READS IS OF BULK AT MOST 1048576: true; the input reads as it did. -/
def fnExactDayAddUptoRow : OpenClaim := { program := "ytabjadjcecnicaa", sum := "007d2761f055cdc3c89b072610bfbd2722a821727719178abaab22778dc06650", func := "loop.example/jetton/laws.FnExactDayAdd", spec := "fnExactDayAdd", apart := false, narrowed := true }
def FnExactDayAddUptoSaid : Prop := fnExactDayAddUptoRow.holds Try.pinned (OpenSpec.upto fnExactDayAddSpec)

/-- 'laws.FnDayParts', WHERE WHAT IT READS IS OF BULK AT MOST 1048576: true; the input reads as it did. -/
def fnDayPartsUptoRow : OpenClaim := { program := "ytabjadjcecnicaa", sum := "007d2761f055cdc3c89b072610bfbd2722a821727719178abaab22778dc06650", func := "loop.example/jetton/laws.FnDayParts", spec := "fnDayParts", apart := false, narrowed := true }
def FnDayPartsUptoSaid : Prop := fnDayPartsUptoRow.holds Try.pinned (OpenSpec.upto fnDayPartsSpec)

/-- 'laws.FnExactDayUntil', WHERE WHAT IT READS IS OF BULK AT MOST 1048576: true; the input reads as it did. -/
def fnExactDayUntilUptoRow : OpenClaim := { program := "ytabjadjcecnicaa", sum := "007d2761f055cdc3c89b072610bfbd2722a821727719178abaab22778dc06650", func := "loop.example/jetton/laws.FnExactDayUntil", spec := "fnExactDayUntil", apart := false, narrowed := true }
def FnExactDayUntilUptoSaid : Prop := fnExactDayUntilUptoRow.holds Try.pinned (OpenSpec.upto fnExactDayUntilSpec)

/-- 'laws.FnDayAdd', WHERE WHAT IT READS IS OF BULK AT MOST 1048576: true; the input reads as it did. -/
def fnDayAddUptoRow : OpenClaim := { program := "ytabjadjcecnicaa", sum := "007d2761f055cdc3c89b072610bfbd2722a821727719178abaab22778dc06650", func := "loop.example/jetton/laws.FnDayAdd", spec := "fnDayAdd", apart := false, narrowed := true }
def FnDayAddUptoSaid : Prop := fnDayAddUptoRow.holds Try.pinned (OpenSpec.upto fnDayAddSpec)

/-- 'laws.FnDayBack', WHERE WHAT IT READS IS OF BULK AT MOST 1048576: true; the input reads as it did. -/
def fnDayBackUptoRow : OpenClaim := { program := "ytabjadjcecnicaa", sum := "007d2761f055cdc3c89b072610bfbd2722a821727719178abaab22778dc06650", func := "loop.example/jetton/laws.FnDayBack", spec := "fnDayBack", apart := false, narrowed := true }
def FnDayBackUptoSaid : Prop := fnDayBackUptoRow.holds Try.pinned (OpenSpec.upto fnDayBackSpec)

/-- 'laws.FnDayUntil', WHERE WHAT IT READS IS OF BULK AT MOST 1048576: true; the input reads as it did. -/
def fnDayUntilUptoRow : OpenClaim := { program := "ytabjadjcecnicaa", sum := "007d2761f055cdc3c89b072610bfbd2722a821727719178abaab22778dc06650", func := "loop.example/jetton/laws.FnDayUntil", spec := "fnDayUntil", apart := false, narrowed := true }
def FnDayUntilUptoSaid : Prop := fnDayUntilUptoRow.holds Try.pinned (OpenSpec.upto fnDayUntilSpec)

end Rows
end Go.Proofs.Ytabjadjcecnicaa
