/-
  DERIVED. GIVEN WITH THE SEED: THE CARDS: each row of YtbpbfboaofkpaaaDoorRows.lean that lists a variable, with what it lists TIED to the program's text (the seventh form; the later family's looks); each row that meets fmt, with fmt's text TOLD by the authors' own Lean function (tested against real Go, not proved from fmt's source: count such statements apart). THE CARD IS WHAT COUNTS. Prove the row's statement (the work); the ties are given (YtbpbfboaofkpaaaDoorTie.lean); close each card by the builder's one call (the guide's Derived/Test/ToyasCard.lean, 'card_holds'). Laid BY PROGRAM, IN A SANDBOX (cutbox-door.mjs). By AI agents, Wed Nov 11 2026. No macro, syntax, notation, axiom, sorry.
-/
import Derived.Test.YtbpbfboaofkpaaaDoorRows
import GoSem.ClaimSeven
namespace Go.Proofs.YtbpbfboaofkpaaaDoor
namespace Rows

/-- THE TIED CARD OF 'triviumlaw4.TermEscapes'. -/
def termEscapesCard : Claim7 := { stood := { row := termEscapesRow, standIns := [], harness := (true, "8dc71fce747bb8b3b218677ae7dbf523581ddbbfb392b53abaf975cea163e82b"), looks := false }, kinds := [], alts := [], laidByText := true, laidKinds := [.data, .pinned], laidTests := true, laidLooks := .later }
def TermEscapesCardSaid : Prop := Claim7.holds Tryd.pinned (.plain (OpenSpec.ofChange termEscapesSpec)) termEscapesCard

/-- THE TIED CARD OF 'triviumlaw4.TermOne'. -/
def termOneCard : Claim7 := { stood := { row := termOneRow, standIns := [], harness := (true, "8dc71fce747bb8b3b218677ae7dbf523581ddbbfb392b53abaf975cea163e82b"), looks := false }, kinds := [], alts := [], laidByText := true, laidKinds := [.data, .pinned], laidTests := true, laidLooks := .later }
def TermOneCardSaid : Prop := Claim7.holds Tryd.pinned (.plain (OpenSpec.ofChange termOneSpec)) termOneCard

/-- THE TIED CARD OF 'triviumlaw12.QueryBack'. -/
def queryBackCard : Claim7 := { stood := { row := queryBackRow, standIns := [], harness := (true, "8dc71fce747bb8b3b218677ae7dbf523581ddbbfb392b53abaf975cea163e82b"), looks := false }, kinds := [], alts := [], laidByText := true, laidKinds := [.data, .pinned], laidTests := true, laidLooks := .later }
def QueryBackCardSaid : Prop := Claim7.holds Tryd.pinned (.plain (OpenSpec.ofChange queryBackSpec)) queryBackCard

/-- THE TIED CARD OF 'triviumlaw12.QueryBlanks'. -/
def queryBlanksCard : Claim7 := { stood := { row := queryBlanksRow, standIns := [], harness := (true, "8dc71fce747bb8b3b218677ae7dbf523581ddbbfb392b53abaf975cea163e82b"), looks := false }, kinds := [], alts := [], laidByText := true, laidKinds := [.data, .pinned], laidTests := true, laidLooks := .later }
def QueryBlanksCardSaid : Prop := Claim7.holds Tryd.pinned (.plain (OpenSpec.ofChange queryBlanksSpec)) queryBlanksCard

/-- THE TIED CARD OF 'triviumlaw12.QueryDeep'. -/
def queryDeepCard : Claim7 := { stood := { row := queryDeepRow, standIns := [], harness := (true, "8dc71fce747bb8b3b218677ae7dbf523581ddbbfb392b53abaf975cea163e82b"), looks := false }, kinds := [], alts := [], laidByText := true, laidKinds := [.data, .pinned], laidTests := true, laidLooks := .later }
def QueryDeepCardSaid : Prop := Claim7.holds Tryd.pinned (.plain (OpenSpec.ofChange queryDeepSpec)) queryDeepCard

/-- THE TIED CARD OF 'triviumlaw12.QueryBinds'. -/
def queryBindsCard : Claim7 := { stood := { row := queryBindsRow, standIns := [], harness := (true, "8dc71fce747bb8b3b218677ae7dbf523581ddbbfb392b53abaf975cea163e82b"), looks := false }, kinds := [], alts := [], laidByText := true, laidKinds := [.data, .pinned], laidTests := true, laidLooks := .later }
def QueryBindsCardSaid : Prop := Claim7.holds Tryd.pinned (.plain (OpenSpec.ofChange queryBindsSpec)) queryBindsCard

/-- THE TIED CARD OF 'triviumlaw12.QueryCut'. -/
def queryCutCard : Claim7 := { stood := { row := queryCutRow, standIns := [], harness := (true, "8dc71fce747bb8b3b218677ae7dbf523581ddbbfb392b53abaf975cea163e82b"), looks := false }, kinds := [], alts := [], laidByText := true, laidKinds := [.data, .pinned], laidTests := true, laidLooks := .later }
def QueryCutCardSaid : Prop := Claim7.holds Tryd.pinned (.plain (OpenSpec.ofChange queryCutSpec)) queryCutCard

/-- THE TIED CARD OF 'triviumlaw12.QueryPaths'. -/
def queryPathsCard : Claim7 := { stood := { row := queryPathsRow, standIns := [], harness := (true, "8dc71fce747bb8b3b218677ae7dbf523581ddbbfb392b53abaf975cea163e82b"), looks := false }, kinds := [], alts := [], laidByText := true, laidKinds := [.data, .pinned], laidTests := true, laidLooks := .later }
def QueryPathsCardSaid : Prop := Claim7.holds Tryd.pinned (.plain (OpenSpec.ofChange queryPathsSpec)) queryPathsCard

/-- THE TIED CARD OF 'triviumlaw12.QueryTells'. -/
def queryTellsCard : Claim7 := { stood := { row := queryTellsRow, standIns := [], harness := (true, "8dc71fce747bb8b3b218677ae7dbf523581ddbbfb392b53abaf975cea163e82b"), looks := false }, kinds := [], alts := [], laidByText := true, laidKinds := [.data, .pinned], laidTests := true, laidLooks := .later }
def QueryTellsCardSaid : Prop := Claim7.holds Tryd.pinned (.plain (OpenSpec.ofChange queryTellsSpec)) queryTellsCard

/-- THE TIED CARD OF 'triviumlaw12.QueryOdd'. -/
def queryOddCard : Claim7 := { stood := { row := queryOddRow, standIns := [], harness := (true, "8dc71fce747bb8b3b218677ae7dbf523581ddbbfb392b53abaf975cea163e82b"), looks := false }, kinds := [], alts := [], laidByText := true, laidKinds := [.data, .pinned], laidTests := true, laidLooks := .later }
def QueryOddCardSaid : Prop := Claim7.holds Tryd.pinned (.plain (OpenSpec.ofChange queryOddSpec)) queryOddCard

/-- THE TIED CARD OF 'triviumlaw12.QueryMay'. -/
def queryMayCard : Claim7 := { stood := { row := queryMayRow, standIns := [], harness := (true, "8dc71fce747bb8b3b218677ae7dbf523581ddbbfb392b53abaf975cea163e82b"), looks := false }, kinds := [], alts := [], laidByText := true, laidKinds := [.data, .pinned], laidTests := true, laidLooks := .later }
def QueryMayCardSaid : Prop := Claim7.holds Tryd.pinned (.plain (OpenSpec.ofChange queryMaySpec)) queryMayCard

/-- THE TIED CARD OF 'triviumlaw12.QueryVars'. -/
def queryVarsCard : Claim7 := { stood := { row := queryVarsRow, standIns := [], harness := (true, "8dc71fce747bb8b3b218677ae7dbf523581ddbbfb392b53abaf975cea163e82b"), looks := false }, kinds := [], alts := [], laidByText := true, laidKinds := [.data, .pinned], laidTests := true, laidLooks := .later }
def QueryVarsCardSaid : Prop := Claim7.holds Tryd.pinned (.plain (OpenSpec.ofChange queryVarsSpec)) queryVarsCard

/-- THE SECOND FORM's CARD OF 'triviumlaw4.TermEscapes'. -/
def termEscapesUptoCard : Claim7 := { stood := { row := termEscapesUptoRow, standIns := [], harness := (true, "8dc71fce747bb8b3b218677ae7dbf523581ddbbfb392b53abaf975cea163e82b"), looks := false }, kinds := [], alts := [], laidByText := true, laidKinds := [.data, .pinned], laidTests := true, laidLooks := .later }
def TermEscapesUptoCardSaid : Prop := Claim7.holds Tryd.pinned (.plain (OpenSpec.upto termEscapesSpec)) termEscapesUptoCard

/-- THE SECOND FORM's CARD OF 'triviumlaw4.TermOne'. -/
def termOneUptoCard : Claim7 := { stood := { row := termOneUptoRow, standIns := [], harness := (true, "8dc71fce747bb8b3b218677ae7dbf523581ddbbfb392b53abaf975cea163e82b"), looks := false }, kinds := [], alts := [], laidByText := true, laidKinds := [.data, .pinned], laidTests := true, laidLooks := .later }
def TermOneUptoCardSaid : Prop := Claim7.holds Tryd.pinned (.plain (OpenSpec.upto termOneSpec)) termOneUptoCard

/-- THE SECOND FORM's CARD OF 'triviumlaw12.QueryBack'. -/
def queryBackUptoCard : Claim7 := { stood := { row := queryBackUptoRow, standIns := [], harness := (true, "8dc71fce747bb8b3b218677ae7dbf523581ddbbfb392b53abaf975cea163e82b"), looks := false }, kinds := [], alts := [], laidByText := true, laidKinds := [.data, .pinned], laidTests := true, laidLooks := .later }
def QueryBackUptoCardSaid : Prop := Claim7.holds Tryd.pinned (.plain (OpenSpec.upto queryBackSpec)) queryBackUptoCard

/-- THE SECOND FORM's CARD OF 'triviumlaw12.QueryBlanks'. -/
def queryBlanksUptoCard : Claim7 := { stood := { row := queryBlanksUptoRow, standIns := [], harness := (true, "8dc71fce747bb8b3b218677ae7dbf523581ddbbfb392b53abaf975cea163e82b"), looks := false }, kinds := [], alts := [], laidByText := true, laidKinds := [.data, .pinned], laidTests := true, laidLooks := .later }
def QueryBlanksUptoCardSaid : Prop := Claim7.holds Tryd.pinned (.plain (OpenSpec.upto queryBlanksSpec)) queryBlanksUptoCard

/-- THE SECOND FORM's CARD OF 'triviumlaw12.QueryDeep'. -/
def queryDeepUptoCard : Claim7 := { stood := { row := queryDeepUptoRow, standIns := [], harness := (true, "8dc71fce747bb8b3b218677ae7dbf523581ddbbfb392b53abaf975cea163e82b"), looks := false }, kinds := [], alts := [], laidByText := true, laidKinds := [.data, .pinned], laidTests := true, laidLooks := .later }
def QueryDeepUptoCardSaid : Prop := Claim7.holds Tryd.pinned (.plain (OpenSpec.upto queryDeepSpec)) queryDeepUptoCard

/-- THE SECOND FORM's CARD OF 'triviumlaw12.QueryBinds'. -/
def queryBindsUptoCard : Claim7 := { stood := { row := queryBindsUptoRow, standIns := [], harness := (true, "8dc71fce747bb8b3b218677ae7dbf523581ddbbfb392b53abaf975cea163e82b"), looks := false }, kinds := [], alts := [], laidByText := true, laidKinds := [.data, .pinned], laidTests := true, laidLooks := .later }
def QueryBindsUptoCardSaid : Prop := Claim7.holds Tryd.pinned (.plain (OpenSpec.upto queryBindsSpec)) queryBindsUptoCard

/-- THE SECOND FORM's CARD OF 'triviumlaw12.QueryCut'. -/
def queryCutUptoCard : Claim7 := { stood := { row := queryCutUptoRow, standIns := [], harness := (true, "8dc71fce747bb8b3b218677ae7dbf523581ddbbfb392b53abaf975cea163e82b"), looks := false }, kinds := [], alts := [], laidByText := true, laidKinds := [.data, .pinned], laidTests := true, laidLooks := .later }
def QueryCutUptoCardSaid : Prop := Claim7.holds Tryd.pinned (.plain (OpenSpec.upto queryCutSpec)) queryCutUptoCard

/-- THE SECOND FORM's CARD OF 'triviumlaw12.QueryPaths'. -/
def queryPathsUptoCard : Claim7 := { stood := { row := queryPathsUptoRow, standIns := [], harness := (true, "8dc71fce747bb8b3b218677ae7dbf523581ddbbfb392b53abaf975cea163e82b"), looks := false }, kinds := [], alts := [], laidByText := true, laidKinds := [.data, .pinned], laidTests := true, laidLooks := .later }
def QueryPathsUptoCardSaid : Prop := Claim7.holds Tryd.pinned (.plain (OpenSpec.upto queryPathsSpec)) queryPathsUptoCard

/-- THE SECOND FORM's CARD OF 'triviumlaw12.QueryTells'. -/
def queryTellsUptoCard : Claim7 := { stood := { row := queryTellsUptoRow, standIns := [], harness := (true, "8dc71fce747bb8b3b218677ae7dbf523581ddbbfb392b53abaf975cea163e82b"), looks := false }, kinds := [], alts := [], laidByText := true, laidKinds := [.data, .pinned], laidTests := true, laidLooks := .later }
def QueryTellsUptoCardSaid : Prop := Claim7.holds Tryd.pinned (.plain (OpenSpec.upto queryTellsSpec)) queryTellsUptoCard

/-- THE SECOND FORM's CARD OF 'triviumlaw12.QueryOdd'. -/
def queryOddUptoCard : Claim7 := { stood := { row := queryOddUptoRow, standIns := [], harness := (true, "8dc71fce747bb8b3b218677ae7dbf523581ddbbfb392b53abaf975cea163e82b"), looks := false }, kinds := [], alts := [], laidByText := true, laidKinds := [.data, .pinned], laidTests := true, laidLooks := .later }
def QueryOddUptoCardSaid : Prop := Claim7.holds Tryd.pinned (.plain (OpenSpec.upto queryOddSpec)) queryOddUptoCard

/-- THE SECOND FORM's CARD OF 'triviumlaw12.QueryMay'. -/
def queryMayUptoCard : Claim7 := { stood := { row := queryMayUptoRow, standIns := [], harness := (true, "8dc71fce747bb8b3b218677ae7dbf523581ddbbfb392b53abaf975cea163e82b"), looks := false }, kinds := [], alts := [], laidByText := true, laidKinds := [.data, .pinned], laidTests := true, laidLooks := .later }
def QueryMayUptoCardSaid : Prop := Claim7.holds Tryd.pinned (.plain (OpenSpec.upto queryMaySpec)) queryMayUptoCard

/-- THE SECOND FORM's CARD OF 'triviumlaw12.QueryVars'. -/
def queryVarsUptoCard : Claim7 := { stood := { row := queryVarsUptoRow, standIns := [], harness := (true, "8dc71fce747bb8b3b218677ae7dbf523581ddbbfb392b53abaf975cea163e82b"), looks := false }, kinds := [], alts := [], laidByText := true, laidKinds := [.data, .pinned], laidTests := true, laidLooks := .later }
def QueryVarsUptoCardSaid : Prop := Claim7.holds Tryd.pinned (.plain (OpenSpec.upto queryVarsSpec)) queryVarsUptoCard
end Rows
end Go.Proofs.YtbpbfboaofkpaaaDoor
