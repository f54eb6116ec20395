/-
  DERIVED. GIVEN WITH THE SEED: THE CARDS: each row of YtdbgpoileffbeaaDoorRows.lean that lists a variable, with what it lists TIED to the program's text (the seventh form; the later family's looks); each row that meets fmt, with fmt's text TOLD by the authors' own Lean function (tested against real Go, not proved from fmt's source: count such statements apart). THE CARD IS WHAT COUNTS. Prove the row's statement (the work); the ties are given (YtdbgpoileffbeaaDoorTie.lean); close each card by the builder's one call (the guide's Derived/Test/ToyasCard.lean, 'card_holds'). Laid BY PROGRAM, IN A SANDBOX (cutbox-door.mjs). By AI agents, Wed Nov 11 2026. No macro, syntax, notation, axiom, sorry.
-/
import Derived.Test.YtdbgpoileffbeaaDoorRows
import GoSem.ClaimSeven
namespace Go.Proofs.YtdbgpoileffbeaaDoor
namespace Rows

/-- THE TIED CARD OF 'laws.FnExactBigPut'. -/
def fnExactBigPutCard : Claim7 := { stood := { row := fnExactBigPutRow, standIns := [], harness := (true, "59bab807b08119e24357faa63778db0caf6f49c479d47fe5be24cfdefed8b9df"), looks := true }, kinds := [], alts := [], laidByText := true, laidKinds := [.data, .data, .data], laidTests := true, laidLooks := .later }
def FnExactBigPutCardSaid : Prop := Claim7.holds Tryd.pinned (.plain (OpenSpec.ofChange fnExactBigPutSpec)) fnExactBigPutCard

/-- THE TIED CARD OF 'laws.FnExactDecOk'. -/
def fnExactDecOkCard : Claim7 := { stood := { row := fnExactDecOkRow, standIns := [], harness := (true, "59bab807b08119e24357faa63778db0caf6f49c479d47fe5be24cfdefed8b9df"), looks := true }, kinds := [], alts := [], laidByText := true, laidKinds := [.data, .data, .data], laidTests := true, laidLooks := .later }
def FnExactDecOkCardSaid : Prop := Claim7.holds Tryd.pinned (.plain (OpenSpec.ofChange fnExactDecOkSpec)) fnExactDecOkCard

/-- THE TIED CARD OF 'laws.FnExactDecPut'. -/
def fnExactDecPutCard : Claim7 := { stood := { row := fnExactDecPutRow, standIns := [], harness := (true, "59bab807b08119e24357faa63778db0caf6f49c479d47fe5be24cfdefed8b9df"), looks := true }, kinds := [], alts := [], laidByText := true, laidKinds := [.data, .data, .data], laidTests := true, laidLooks := .later }
def FnExactDecPutCardSaid : Prop := Claim7.holds Tryd.pinned (.plain (OpenSpec.ofChange fnExactDecPutSpec)) fnExactDecPutCard

/-- THE TIED CARD OF 'laws.FnExactBigGet'. -/
def fnExactBigGetCard : Claim7 := { stood := { row := fnExactBigGetRow, standIns := [], harness := (true, "59bab807b08119e24357faa63778db0caf6f49c479d47fe5be24cfdefed8b9df"), looks := true }, kinds := [], alts := [], laidByText := true, laidKinds := [.data, .data, .data, .sentinel, .sentinel], laidTests := true, laidLooks := .later }
def FnExactBigGetCardSaid : Prop := Claim7.holds Tryd.pinned (.plain (OpenSpec.ofChange fnExactBigGetSpec)) fnExactBigGetCard

/-- THE TIED CARD OF 'laws.FnBigGet'. -/
def fnBigGetCard : Claim7 := { stood := { row := fnBigGetRow, standIns := [], harness := (true, "59bab807b08119e24357faa63778db0caf6f49c479d47fe5be24cfdefed8b9df"), looks := true }, kinds := [], alts := [], laidByText := true, laidKinds := [.data, .data, .data, .sentinel, .sentinel], laidTests := true, laidLooks := .later }
def FnBigGetCardSaid : Prop := Claim7.holds Tryd.pinned (.plain (OpenSpec.ofChange fnBigGetSpec)) fnBigGetCard

/-- THE TIED CARD OF 'laws.FnBigTen'. -/
def fnBigTenCard : Claim7 := { stood := { row := fnBigTenRow, standIns := [], harness := (true, "59bab807b08119e24357faa63778db0caf6f49c479d47fe5be24cfdefed8b9df"), looks := true }, kinds := [], alts := [], laidByText := true, laidKinds := [.data, .data, .data], laidTests := true, laidLooks := .later }
def FnBigTenCardSaid : Prop := Claim7.holds Tryd.pinned (.plain (OpenSpec.ofChange fnBigTenSpec)) fnBigTenCard

/-- THE SECOND FORM's CARD OF 'laws.FnExactBigPut'. -/
def fnExactBigPutUptoCard : Claim7 := { stood := { row := fnExactBigPutUptoRow, standIns := [], harness := (true, "59bab807b08119e24357faa63778db0caf6f49c479d47fe5be24cfdefed8b9df"), looks := true }, kinds := [], alts := [], laidByText := true, laidKinds := [.data, .data, .data], laidTests := true, laidLooks := .later }
def FnExactBigPutUptoCardSaid : Prop := Claim7.holds Tryd.pinned (.plain (OpenSpec.upto fnExactBigPutSpec)) fnExactBigPutUptoCard

/-- THE SECOND FORM's CARD OF 'laws.FnExactDecOk'. -/
def fnExactDecOkUptoCard : Claim7 := { stood := { row := fnExactDecOkUptoRow, standIns := [], harness := (true, "59bab807b08119e24357faa63778db0caf6f49c479d47fe5be24cfdefed8b9df"), looks := true }, kinds := [], alts := [], laidByText := true, laidKinds := [.data, .data, .data], laidTests := true, laidLooks := .later }
def FnExactDecOkUptoCardSaid : Prop := Claim7.holds Tryd.pinned (.plain (OpenSpec.upto fnExactDecOkSpec)) fnExactDecOkUptoCard

/-- THE SECOND FORM's CARD OF 'laws.FnExactDecPut'. -/
def fnExactDecPutUptoCard : Claim7 := { stood := { row := fnExactDecPutUptoRow, standIns := [], harness := (true, "59bab807b08119e24357faa63778db0caf6f49c479d47fe5be24cfdefed8b9df"), looks := true }, kinds := [], alts := [], laidByText := true, laidKinds := [.data, .data, .data], laidTests := true, laidLooks := .later }
def FnExactDecPutUptoCardSaid : Prop := Claim7.holds Tryd.pinned (.plain (OpenSpec.upto fnExactDecPutSpec)) fnExactDecPutUptoCard

/-- THE SECOND FORM's CARD OF 'laws.FnExactBigGet'. -/
def fnExactBigGetUptoCard : Claim7 := { stood := { row := fnExactBigGetUptoRow, standIns := [], harness := (true, "59bab807b08119e24357faa63778db0caf6f49c479d47fe5be24cfdefed8b9df"), looks := true }, kinds := [], alts := [], laidByText := true, laidKinds := [.data, .data, .data, .sentinel, .sentinel], laidTests := true, laidLooks := .later }
def FnExactBigGetUptoCardSaid : Prop := Claim7.holds Tryd.pinned (.plain (OpenSpec.upto fnExactBigGetSpec)) fnExactBigGetUptoCard

/-- THE SECOND FORM's CARD OF 'laws.FnBigGet'. -/
def fnBigGetUptoCard : Claim7 := { stood := { row := fnBigGetUptoRow, standIns := [], harness := (true, "59bab807b08119e24357faa63778db0caf6f49c479d47fe5be24cfdefed8b9df"), looks := true }, kinds := [], alts := [], laidByText := true, laidKinds := [.data, .data, .data, .sentinel, .sentinel], laidTests := true, laidLooks := .later }
def FnBigGetUptoCardSaid : Prop := Claim7.holds Tryd.pinned (.plain (OpenSpec.upto fnBigGetSpec)) fnBigGetUptoCard

/-- THE SECOND FORM's CARD OF 'laws.FnBigTen'. -/
def fnBigTenUptoCard : Claim7 := { stood := { row := fnBigTenUptoRow, standIns := [], harness := (true, "59bab807b08119e24357faa63778db0caf6f49c479d47fe5be24cfdefed8b9df"), looks := true }, kinds := [], alts := [], laidByText := true, laidKinds := [.data, .data, .data], laidTests := true, laidLooks := .later }
def FnBigTenUptoCardSaid : Prop := Claim7.holds Tryd.pinned (.plain (OpenSpec.upto fnBigTenSpec)) fnBigTenUptoCard
end Rows
end Go.Proofs.YtdbgpoileffbeaaDoor
