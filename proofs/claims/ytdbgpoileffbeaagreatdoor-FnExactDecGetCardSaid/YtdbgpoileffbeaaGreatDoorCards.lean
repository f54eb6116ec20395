/-
  DERIVED. GIVEN WITH THE SEED: THE CARDS: each row of YtdbgpoileffbeaaGreatDoorRows.lean that lists a variable, with what it lists TIED to the program's text (the seventh form; the later family's looks); each row that meets fmt, with fmt's text TOLD by the authors' own Lean function (tested against real Go, not proved from fmt's source: count such statements apart). THE CARD IS WHAT COUNTS. Prove the row's statement (the work); the ties are given (YtdbgpoileffbeaaGreatDoorTie.lean); close each card by the builder's one call (the guide's Derived/Test/ToyasCard.lean, 'card_holds'). Laid BY PROGRAM, IN A SANDBOX (cutbox-door.mjs). By AI agents, Wed Nov 11 2026. No macro, syntax, notation, axiom, sorry.
-/
import Derived.Test.YtdbgpoileffbeaaGreatDoorRows
import GoSem.ClaimSeven
namespace Go.Proofs.YtdbgpoileffbeaaGreatDoor
namespace Rows

/-- THE TIED CARD OF 'laws.FnExactDecGet'. -/
def fnExactDecGetCard : Claim7 := { stood := { row := fnExactDecGetRow, standIns := [], harness := (true, "5af7336209776a6836e1ae8ee283ae987b35f6e6ac8db6625576ad7c9309631f"), looks := true }, kinds := [], alts := [], laidByText := true, laidKinds := [.data, .data, .data, .sentinel, .sentinel], laidTests := true, laidLooks := .later }
def FnExactDecGetCardSaid : Prop := Claim7.holds Tryz.pinned (.plain (OpenSpec.ofChange fnExactDecGetSpec)) fnExactDecGetCard

/-- THE TIED CARD OF 'laws.FnDecPut'. -/
def fnDecPutCard : Claim7 := { stood := { row := fnDecPutRow, standIns := [], harness := (true, "5af7336209776a6836e1ae8ee283ae987b35f6e6ac8db6625576ad7c9309631f"), looks := true }, kinds := [], alts := [], laidByText := true, laidKinds := [.data, .data, .data, .sentinel, .sentinel], laidTests := true, laidLooks := .later }
def FnDecPutCardSaid : Prop := Claim7.holds Tryz.pinned (.plain (OpenSpec.ofChange fnDecPutSpec)) fnDecPutCard

/-- THE TIED CARD OF 'laws.FnDecGet'. -/
def fnDecGetCard : Claim7 := { stood := { row := fnDecGetRow, standIns := [], harness := (true, "5af7336209776a6836e1ae8ee283ae987b35f6e6ac8db6625576ad7c9309631f"), looks := true }, kinds := [], alts := [], laidByText := true, laidKinds := [.data, .data, .data, .sentinel, .sentinel], laidTests := true, laidLooks := .later }
def FnDecGetCardSaid : Prop := Claim7.holds Tryz.pinned (.plain (OpenSpec.ofChange fnDecGetSpec)) fnDecGetCard

/-- THE SECOND FORM's CARD OF 'laws.FnExactDecGet'. -/
def fnExactDecGetUptoCard : Claim7 := { stood := { row := fnExactDecGetUptoRow, standIns := [], harness := (true, "5af7336209776a6836e1ae8ee283ae987b35f6e6ac8db6625576ad7c9309631f"), looks := true }, kinds := [], alts := [], laidByText := true, laidKinds := [.data, .data, .data, .sentinel, .sentinel], laidTests := true, laidLooks := .later }
def FnExactDecGetUptoCardSaid : Prop := Claim7.holds Tryz.pinned (.plain (OpenSpec.upto fnExactDecGetSpec)) fnExactDecGetUptoCard

/-- THE SECOND FORM's CARD OF 'laws.FnDecPut'. -/
def fnDecPutUptoCard : Claim7 := { stood := { row := fnDecPutUptoRow, standIns := [], harness := (true, "5af7336209776a6836e1ae8ee283ae987b35f6e6ac8db6625576ad7c9309631f"), looks := true }, kinds := [], alts := [], laidByText := true, laidKinds := [.data, .data, .data, .sentinel, .sentinel], laidTests := true, laidLooks := .later }
def FnDecPutUptoCardSaid : Prop := Claim7.holds Tryz.pinned (.plain (OpenSpec.upto fnDecPutSpec)) fnDecPutUptoCard

/-- THE SECOND FORM's CARD OF 'laws.FnDecGet'. -/
def fnDecGetUptoCard : Claim7 := { stood := { row := fnDecGetUptoRow, standIns := [], harness := (true, "5af7336209776a6836e1ae8ee283ae987b35f6e6ac8db6625576ad7c9309631f"), looks := true }, kinds := [], alts := [], laidByText := true, laidKinds := [.data, .data, .data, .sentinel, .sentinel], laidTests := true, laidLooks := .later }
def FnDecGetUptoCardSaid : Prop := Claim7.holds Tryz.pinned (.plain (OpenSpec.upto fnDecGetSpec)) fnDecGetUptoCard
end Rows
end Go.Proofs.YtdbgpoileffbeaaGreatDoor
