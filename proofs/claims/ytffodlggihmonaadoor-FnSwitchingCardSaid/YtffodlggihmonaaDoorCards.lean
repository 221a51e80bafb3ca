/-
  DERIVED. GIVEN WITH THE SEED: THE CARDS: each row of YtffodlggihmonaaDoorRows.lean that lists a variable, with what it lists TIED to the program's text (the seventh form; the later family's looks); each row that meets fmt, with fmt's text TOLD by the authors' own Lean function (tested against real Go, not proved from fmt's source: count such statements apart). THE CARD IS WHAT COUNTS. Prove the row's statement (the work); the ties are given (YtffodlggihmonaaDoorTie.lean); close each card by the builder's one call (the guide's Derived/Test/ToyasCard.lean, 'card_holds'). Laid BY PROGRAM, IN A SANDBOX (cutbox-door.mjs). By AI agents, Wed Nov 11 2026. No macro, syntax, notation, axiom, sorry.
-/
import Derived.Test.YtffodlggihmonaaDoorRows
import GoSem.ClaimSeven
namespace Go.Proofs.YtffodlggihmonaaDoor
namespace Rows

/-- THE TIED CARD OF 'laws.FnSwitching'. -/
def fnSwitchingCard : Claim7 := { stood := { row := fnSwitchingRow, standIns := [], harness := (true, "4b74cb0eb1e878ff2d09b16dc5861c1151d8187114b33426a2b39df68574e326"), looks := false }, kinds := [], alts := [], laidByText := true, laidKinds := [.data, .data, .data, .data, .pinned], laidTests := true, laidLooks := .later }
def FnSwitchingCardSaid : Prop := Claim7.holds Tryd.pinned (.plain (OpenSpec.ofChange fnSwitchingSpec)) fnSwitchingCard

/-- THE TIED CARD OF 'laws.FnExactOrdersText'. -/
def fnExactOrdersTextCard : Claim7 := { stood := { row := fnExactOrdersTextRow, standIns := [], harness := (true, "4b74cb0eb1e878ff2d09b16dc5861c1151d8187114b33426a2b39df68574e326"), looks := false }, kinds := [], alts := [], laidByText := true, laidKinds := [.data, .data, .data], laidTests := true, laidLooks := .later }
def FnExactOrdersTextCardSaid : Prop := Claim7.holds Tryd.pinned (.plain (OpenSpec.ofChange fnExactOrdersTextSpec)) fnExactOrdersTextCard

/-- THE TIED CARD OF 'laws.FnExactReadOrders'. -/
def fnExactReadOrdersCard : Claim7 := { stood := { row := fnExactReadOrdersRow, standIns := [], harness := (true, "4b74cb0eb1e878ff2d09b16dc5861c1151d8187114b33426a2b39df68574e326"), looks := false }, kinds := [], alts := [], laidByText := true, laidKinds := [.data, .data, .data, .data, .pinned], laidTests := true, laidLooks := .later }
def FnExactReadOrdersCardSaid : Prop := Claim7.holds Tryd.pinned (.plain (OpenSpec.ofChange fnExactReadOrdersSpec)) fnExactReadOrdersCard

/-- THE SECOND FORM's CARD OF 'laws.FnSwitching'. -/
def fnSwitchingUptoCard : Claim7 := { stood := { row := fnSwitchingUptoRow, standIns := [], harness := (true, "4b74cb0eb1e878ff2d09b16dc5861c1151d8187114b33426a2b39df68574e326"), looks := false }, kinds := [], alts := [], laidByText := true, laidKinds := [.data, .data, .data, .data, .pinned], laidTests := true, laidLooks := .later }
def FnSwitchingUptoCardSaid : Prop := Claim7.holds Tryd.pinned (.plain (OpenSpec.upto fnSwitchingSpec)) fnSwitchingUptoCard

/-- THE SECOND FORM's CARD OF 'laws.FnExactOrdersText'. -/
def fnExactOrdersTextUptoCard : Claim7 := { stood := { row := fnExactOrdersTextUptoRow, standIns := [], harness := (true, "4b74cb0eb1e878ff2d09b16dc5861c1151d8187114b33426a2b39df68574e326"), looks := false }, kinds := [], alts := [], laidByText := true, laidKinds := [.data, .data, .data], laidTests := true, laidLooks := .later }
def FnExactOrdersTextUptoCardSaid : Prop := Claim7.holds Tryd.pinned (.plain (OpenSpec.upto fnExactOrdersTextSpec)) fnExactOrdersTextUptoCard

/-- THE SECOND FORM's CARD OF 'laws.FnExactReadOrders'. -/
def fnExactReadOrdersUptoCard : Claim7 := { stood := { row := fnExactReadOrdersUptoRow, standIns := [], harness := (true, "4b74cb0eb1e878ff2d09b16dc5861c1151d8187114b33426a2b39df68574e326"), looks := false }, kinds := [], alts := [], laidByText := true, laidKinds := [.data, .data, .data, .data, .pinned], laidTests := true, laidLooks := .later }
def FnExactReadOrdersUptoCardSaid : Prop := Claim7.holds Tryd.pinned (.plain (OpenSpec.upto fnExactReadOrdersSpec)) fnExactReadOrdersUptoCard
end Rows
end Go.Proofs.YtffodlggihmonaaDoor
