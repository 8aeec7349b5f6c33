/-
  DERIVED. GIVEN WITH THE SEED: THE CARDS: each row of YtcdleippdegibaaDoorRows.lean that lists a variable, with what it lists TIED to the program's text (the seventh form; the later family's looks); each row that meets fmt, with fmt's text TOLD by the authors' own Lean function (tested against real Go, not proved from fmt's source: count such statements apart). THE CARD IS WHAT COUNTS. Prove the row's statement (the work); the ties are given (YtcdleippdegibaaDoorTie.lean); close each card by the builder's one call (the guide's Derived/Test/ToyasCard.lean, 'card_holds'). Laid BY PROGRAM, IN A SANDBOX (cutbox-door.mjs). By AI agents, Wed Nov 11 2026. No macro, syntax, notation, axiom, sorry.
-/
import Derived.Test.YtcdleippdegibaaDoorRows
import GoSem.ClaimSeven
namespace Go.Proofs.YtcdleippdegibaaDoor
namespace Rows

/-- THE TIED CARD OF 'regletlaw04.CtokClasses'. -/
def ctokClassesCard : Claim7 := { stood := { row := ctokClassesRow, standIns := [], harness := (true, "29847a30c1a950f03dd90e8786bea86c569f792b0c17e77e42f076e54fa23d9c"), looks := false }, kinds := [], alts := [], laidByText := true, laidKinds := [.data, .pinned], laidTests := true, laidLooks := .later }
def CtokClassesCardSaid : Prop := Claim7.holds Tryd.pinned (.plain (OpenSpec.ofChange ctokClassesSpec)) ctokClassesCard

/-- THE TIED CARD OF 'regletlaw04.CtokBack'. -/
def ctokBackCard : Claim7 := { stood := { row := ctokBackRow, standIns := [], harness := (true, "29847a30c1a950f03dd90e8786bea86c569f792b0c17e77e42f076e54fa23d9c"), looks := false }, kinds := [], alts := [], laidByText := true, laidKinds := [.data, .pinned], laidTests := true, laidLooks := .later }
def CtokBackCardSaid : Prop := Claim7.holds Tryd.pinned (.plain (OpenSpec.ofChange ctokBackSpec)) ctokBackCard

/-- THE TIED CARD OF 'regletlaw04.CtokOne'. -/
def ctokOneCard : Claim7 := { stood := { row := ctokOneRow, standIns := [], harness := (true, "29847a30c1a950f03dd90e8786bea86c569f792b0c17e77e42f076e54fa23d9c"), looks := false }, kinds := [], alts := [], laidByText := true, laidKinds := [.data, .pinned], laidTests := true, laidLooks := .later }
def CtokOneCardSaid : Prop := Claim7.holds Tryd.pinned (.plain (OpenSpec.ofChange ctokOneSpec)) ctokOneCard

/-- THE TIED CARD OF 'regletlaw04.CtokBytes'. -/
def ctokBytesCard : Claim7 := { stood := { row := ctokBytesRow, standIns := [], harness := (true, "29847a30c1a950f03dd90e8786bea86c569f792b0c17e77e42f076e54fa23d9c"), looks := false }, kinds := [], alts := [], laidByText := true, laidKinds := [.data, .pinned], laidTests := true, laidLooks := .later }
def CtokBytesCardSaid : Prop := Claim7.holds Tryd.pinned (.plain (OpenSpec.ofChange ctokBytesSpec)) ctokBytesCard

/-- THE TIED CARD OF 'regletlaw04.CtokTokens'. -/
def ctokTokensCard : Claim7 := { stood := { row := ctokTokensRow, standIns := [], harness := (true, "29847a30c1a950f03dd90e8786bea86c569f792b0c17e77e42f076e54fa23d9c"), looks := false }, kinds := [], alts := [], laidByText := true, laidKinds := [.data, .pinned], laidTests := true, laidLooks := .later }
def CtokTokensCardSaid : Prop := Claim7.holds Tryd.pinned (.plain (OpenSpec.ofChange ctokTokensSpec)) ctokTokensCard

/-- THE TIED CARD OF 'regletlaw04.CtokNames'. -/
def ctokNamesCard : Claim7 := { stood := { row := ctokNamesRow, standIns := [], harness := (true, "29847a30c1a950f03dd90e8786bea86c569f792b0c17e77e42f076e54fa23d9c"), looks := false }, kinds := [], alts := [], laidByText := true, laidKinds := [.data, .pinned], laidTests := true, laidLooks := .later }
def CtokNamesCardSaid : Prop := Claim7.holds Tryd.pinned (.plain (OpenSpec.ofChange ctokNamesSpec)) ctokNamesCard

/-- THE SECOND FORM's CARD OF 'regletlaw04.CtokClasses'. -/
def ctokClassesUptoCard : Claim7 := { stood := { row := ctokClassesUptoRow, standIns := [], harness := (true, "29847a30c1a950f03dd90e8786bea86c569f792b0c17e77e42f076e54fa23d9c"), looks := false }, kinds := [], alts := [], laidByText := true, laidKinds := [.data, .pinned], laidTests := true, laidLooks := .later }
def CtokClassesUptoCardSaid : Prop := Claim7.holds Tryd.pinned (.plain (OpenSpec.upto ctokClassesSpec)) ctokClassesUptoCard

/-- THE SECOND FORM's CARD OF 'regletlaw04.CtokBack'. -/
def ctokBackUptoCard : Claim7 := { stood := { row := ctokBackUptoRow, standIns := [], harness := (true, "29847a30c1a950f03dd90e8786bea86c569f792b0c17e77e42f076e54fa23d9c"), looks := false }, kinds := [], alts := [], laidByText := true, laidKinds := [.data, .pinned], laidTests := true, laidLooks := .later }
def CtokBackUptoCardSaid : Prop := Claim7.holds Tryd.pinned (.plain (OpenSpec.upto ctokBackSpec)) ctokBackUptoCard

/-- THE SECOND FORM's CARD OF 'regletlaw04.CtokOne'. -/
def ctokOneUptoCard : Claim7 := { stood := { row := ctokOneUptoRow, standIns := [], harness := (true, "29847a30c1a950f03dd90e8786bea86c569f792b0c17e77e42f076e54fa23d9c"), looks := false }, kinds := [], alts := [], laidByText := true, laidKinds := [.data, .pinned], laidTests := true, laidLooks := .later }
def CtokOneUptoCardSaid : Prop := Claim7.holds Tryd.pinned (.plain (OpenSpec.upto ctokOneSpec)) ctokOneUptoCard

/-- THE SECOND FORM's CARD OF 'regletlaw04.CtokBytes'. -/
def ctokBytesUptoCard : Claim7 := { stood := { row := ctokBytesUptoRow, standIns := [], harness := (true, "29847a30c1a950f03dd90e8786bea86c569f792b0c17e77e42f076e54fa23d9c"), looks := false }, kinds := [], alts := [], laidByText := true, laidKinds := [.data, .pinned], laidTests := true, laidLooks := .later }
def CtokBytesUptoCardSaid : Prop := Claim7.holds Tryd.pinned (.plain (OpenSpec.upto ctokBytesSpec)) ctokBytesUptoCard

/-- THE SECOND FORM's CARD OF 'regletlaw04.CtokTokens'. -/
def ctokTokensUptoCard : Claim7 := { stood := { row := ctokTokensUptoRow, standIns := [], harness := (true, "29847a30c1a950f03dd90e8786bea86c569f792b0c17e77e42f076e54fa23d9c"), looks := false }, kinds := [], alts := [], laidByText := true, laidKinds := [.data, .pinned], laidTests := true, laidLooks := .later }
def CtokTokensUptoCardSaid : Prop := Claim7.holds Tryd.pinned (.plain (OpenSpec.upto ctokTokensSpec)) ctokTokensUptoCard

/-- THE SECOND FORM's CARD OF 'regletlaw04.CtokNames'. -/
def ctokNamesUptoCard : Claim7 := { stood := { row := ctokNamesUptoRow, standIns := [], harness := (true, "29847a30c1a950f03dd90e8786bea86c569f792b0c17e77e42f076e54fa23d9c"), looks := false }, kinds := [], alts := [], laidByText := true, laidKinds := [.data, .pinned], laidTests := true, laidLooks := .later }
def CtokNamesUptoCardSaid : Prop := Claim7.holds Tryd.pinned (.plain (OpenSpec.upto ctokNamesSpec)) ctokNamesUptoCard
end Rows
end Go.Proofs.YtcdleippdegibaaDoor
