/-
  DERIVED. GIVEN WITH THE SEED: THE CARDS: each row of YtgeloncilhighaaDoorRows.lean that lists a variable, with what it lists TIED to the program's text (the seventh form; the later family's looks); each row that meets fmt, with fmt's text TOLD by the authors' own Lean function (tested against real Go, not proved from fmt's source: count such statements apart). THE CARD IS WHAT COUNTS. Prove the row's statement (the work); the ties are given (YtgeloncilhighaaDoorTie.lean); close each card by the builder's one call (the guide's Derived/Test/ToyasCard.lean, 'card_holds'). Laid BY PROGRAM, IN A SANDBOX (cutbox-door.mjs). By AI agents, Wed Nov 11 2026. No macro, syntax, notation, axiom, sorry.
-/
import Derived.Test.YtgeloncilhighaaDoorRows
import GoSem.ClaimSeven
namespace Go.Proofs.YtgeloncilhighaaDoor
namespace Rows

/-- THE TIED CARD OF 'laws.FnExactSpanPut'. -/
def fnExactSpanPutCard : Claim7 := { stood := { row := fnExactSpanPutRow, standIns := [], harness := (true, "e67fb9ba5e38544430b4275ad0a2c458892152d76866a87ed6d05698b30756db"), looks := true }, kinds := [], alts := [], laidByText := true, laidKinds := [.data, .data, .data], laidTests := true, laidLooks := .later }
def FnExactSpanPutCardSaid : Prop := Claim7.holds Tryd.pinned (.plain (OpenSpec.ofChange fnExactSpanPutSpec)) fnExactSpanPutCard

/-- THE TIED CARD OF 'laws.FnExactTypePut'. -/
def fnExactTypePutCard : Claim7 := { stood := { row := fnExactTypePutRow, standIns := [], harness := (true, "e67fb9ba5e38544430b4275ad0a2c458892152d76866a87ed6d05698b30756db"), looks := true }, kinds := [], alts := [], laidByText := true, laidKinds := [.data, .data, .data, .data], laidTests := true, laidLooks := .later }
def FnExactTypePutCardSaid : Prop := Claim7.holds Tryd.pinned (.plain (OpenSpec.ofChange fnExactTypePutSpec)) fnExactTypePutCard

/-- THE TIED CARD OF 'laws.FnExactDayPut'. -/
def fnExactDayPutCard : Claim7 := { stood := { row := fnExactDayPutRow, standIns := [], harness := (true, "e67fb9ba5e38544430b4275ad0a2c458892152d76866a87ed6d05698b30756db"), looks := true }, kinds := [], alts := [], laidByText := true, laidKinds := [.data, .data, .data], laidTests := true, laidLooks := .later }
def FnExactDayPutCardSaid : Prop := Claim7.holds Tryd.pinned (.plain (OpenSpec.ofChange fnExactDayPutSpec)) fnExactDayPutCard

/-- THE TIED CARD OF 'laws.FnExactSpanGet'. -/
def fnExactSpanGetCard : Claim7 := { stood := { row := fnExactSpanGetRow, standIns := [], harness := (true, "e67fb9ba5e38544430b4275ad0a2c458892152d76866a87ed6d05698b30756db"), looks := true }, kinds := [], alts := [], laidByText := true, laidKinds := [.data, .data, .data, .sentinel, .sentinel], laidTests := true, laidLooks := .later }
def FnExactSpanGetCardSaid : Prop := Claim7.holds Tryd.pinned (.plain (OpenSpec.ofChange fnExactSpanGetSpec)) fnExactSpanGetCard

/-- THE TIED CARD OF 'laws.FnSpanPut'. -/
def fnSpanPutCard : Claim7 := { stood := { row := fnSpanPutRow, standIns := [], harness := (true, "e67fb9ba5e38544430b4275ad0a2c458892152d76866a87ed6d05698b30756db"), looks := true }, kinds := [], alts := [], laidByText := true, laidKinds := [.data, .data, .data, .sentinel, .sentinel], laidTests := true, laidLooks := .later }
def FnSpanPutCardSaid : Prop := Claim7.holds Tryd.pinned (.plain (OpenSpec.ofChange fnSpanPutSpec)) fnSpanPutCard

/-- THE TIED CARD OF 'laws.FnExactDayGet'. -/
def fnExactDayGetCard : Claim7 := { stood := { row := fnExactDayGetRow, standIns := [], harness := (true, "e67fb9ba5e38544430b4275ad0a2c458892152d76866a87ed6d05698b30756db"), looks := true }, kinds := [], alts := [], laidByText := true, laidKinds := [.data, .data, .data, .data, .sentinel, .sentinel, .pinned], laidTests := true, laidLooks := .later }
def FnExactDayGetCardSaid : Prop := Claim7.holds Tryd.pinned (.plain (OpenSpec.ofChange fnExactDayGetSpec)) fnExactDayGetCard

/-- THE TIED CARD OF 'laws.FnDayPut'. -/
def fnDayPutCard : Claim7 := { stood := { row := fnDayPutRow, standIns := [], harness := (true, "e67fb9ba5e38544430b4275ad0a2c458892152d76866a87ed6d05698b30756db"), looks := true }, kinds := [], alts := [], laidByText := true, laidKinds := [.data, .data, .data, .data, .sentinel, .sentinel, .pinned], laidTests := true, laidLooks := .later }
def FnDayPutCardSaid : Prop := Claim7.holds Tryd.pinned (.plain (OpenSpec.ofChange fnDayPutSpec)) fnDayPutCard

/-- THE TIED CARD OF 'laws.FnDayGet'. -/
def fnDayGetCard : Claim7 := { stood := { row := fnDayGetRow, standIns := [], harness := (true, "e67fb9ba5e38544430b4275ad0a2c458892152d76866a87ed6d05698b30756db"), looks := true }, kinds := [], alts := [], laidByText := true, laidKinds := [.data, .data, .data, .data, .sentinel, .sentinel, .pinned], laidTests := true, laidLooks := .later }
def FnDayGetCardSaid : Prop := Claim7.holds Tryd.pinned (.plain (OpenSpec.ofChange fnDayGetSpec)) fnDayGetCard

/-- THE SECOND FORM's CARD OF 'laws.FnExactSpanPut'. -/
def fnExactSpanPutUptoCard : Claim7 := { stood := { row := fnExactSpanPutUptoRow, standIns := [], harness := (true, "e67fb9ba5e38544430b4275ad0a2c458892152d76866a87ed6d05698b30756db"), looks := true }, kinds := [], alts := [], laidByText := true, laidKinds := [.data, .data, .data], laidTests := true, laidLooks := .later }
def FnExactSpanPutUptoCardSaid : Prop := Claim7.holds Tryd.pinned (.plain (OpenSpec.upto fnExactSpanPutSpec)) fnExactSpanPutUptoCard

/-- THE SECOND FORM's CARD OF 'laws.FnExactTypePut'. -/
def fnExactTypePutUptoCard : Claim7 := { stood := { row := fnExactTypePutUptoRow, standIns := [], harness := (true, "e67fb9ba5e38544430b4275ad0a2c458892152d76866a87ed6d05698b30756db"), looks := true }, kinds := [], alts := [], laidByText := true, laidKinds := [.data, .data, .data, .data], laidTests := true, laidLooks := .later }
def FnExactTypePutUptoCardSaid : Prop := Claim7.holds Tryd.pinned (.plain (OpenSpec.upto fnExactTypePutSpec)) fnExactTypePutUptoCard

/-- THE SECOND FORM's CARD OF 'laws.FnExactDayPut'. -/
def fnExactDayPutUptoCard : Claim7 := { stood := { row := fnExactDayPutUptoRow, standIns := [], harness := (true, "e67fb9ba5e38544430b4275ad0a2c458892152d76866a87ed6d05698b30756db"), looks := true }, kinds := [], alts := [], laidByText := true, laidKinds := [.data, .data, .data], laidTests := true, laidLooks := .later }
def FnExactDayPutUptoCardSaid : Prop := Claim7.holds Tryd.pinned (.plain (OpenSpec.upto fnExactDayPutSpec)) fnExactDayPutUptoCard

/-- THE SECOND FORM's CARD OF 'laws.FnExactSpanGet'. -/
def fnExactSpanGetUptoCard : Claim7 := { stood := { row := fnExactSpanGetUptoRow, standIns := [], harness := (true, "e67fb9ba5e38544430b4275ad0a2c458892152d76866a87ed6d05698b30756db"), looks := true }, kinds := [], alts := [], laidByText := true, laidKinds := [.data, .data, .data, .sentinel, .sentinel], laidTests := true, laidLooks := .later }
def FnExactSpanGetUptoCardSaid : Prop := Claim7.holds Tryd.pinned (.plain (OpenSpec.upto fnExactSpanGetSpec)) fnExactSpanGetUptoCard

/-- THE SECOND FORM's CARD OF 'laws.FnSpanPut'. -/
def fnSpanPutUptoCard : Claim7 := { stood := { row := fnSpanPutUptoRow, standIns := [], harness := (true, "e67fb9ba5e38544430b4275ad0a2c458892152d76866a87ed6d05698b30756db"), looks := true }, kinds := [], alts := [], laidByText := true, laidKinds := [.data, .data, .data, .sentinel, .sentinel], laidTests := true, laidLooks := .later }
def FnSpanPutUptoCardSaid : Prop := Claim7.holds Tryd.pinned (.plain (OpenSpec.upto fnSpanPutSpec)) fnSpanPutUptoCard

/-- THE SECOND FORM's CARD OF 'laws.FnExactDayGet'. -/
def fnExactDayGetUptoCard : Claim7 := { stood := { row := fnExactDayGetUptoRow, standIns := [], harness := (true, "e67fb9ba5e38544430b4275ad0a2c458892152d76866a87ed6d05698b30756db"), looks := true }, kinds := [], alts := [], laidByText := true, laidKinds := [.data, .data, .data, .data, .sentinel, .sentinel, .pinned], laidTests := true, laidLooks := .later }
def FnExactDayGetUptoCardSaid : Prop := Claim7.holds Tryd.pinned (.plain (OpenSpec.upto fnExactDayGetSpec)) fnExactDayGetUptoCard

/-- THE SECOND FORM's CARD OF 'laws.FnDayPut'. -/
def fnDayPutUptoCard : Claim7 := { stood := { row := fnDayPutUptoRow, standIns := [], harness := (true, "e67fb9ba5e38544430b4275ad0a2c458892152d76866a87ed6d05698b30756db"), looks := true }, kinds := [], alts := [], laidByText := true, laidKinds := [.data, .data, .data, .data, .sentinel, .sentinel, .pinned], laidTests := true, laidLooks := .later }
def FnDayPutUptoCardSaid : Prop := Claim7.holds Tryd.pinned (.plain (OpenSpec.upto fnDayPutSpec)) fnDayPutUptoCard

/-- THE SECOND FORM's CARD OF 'laws.FnDayGet'. -/
def fnDayGetUptoCard : Claim7 := { stood := { row := fnDayGetUptoRow, standIns := [], harness := (true, "e67fb9ba5e38544430b4275ad0a2c458892152d76866a87ed6d05698b30756db"), looks := true }, kinds := [], alts := [], laidByText := true, laidKinds := [.data, .data, .data, .data, .sentinel, .sentinel, .pinned], laidTests := true, laidLooks := .later }
def FnDayGetUptoCardSaid : Prop := Claim7.holds Tryd.pinned (.plain (OpenSpec.upto fnDayGetSpec)) fnDayGetUptoCard
end Rows
end Go.Proofs.YtgeloncilhighaaDoor
