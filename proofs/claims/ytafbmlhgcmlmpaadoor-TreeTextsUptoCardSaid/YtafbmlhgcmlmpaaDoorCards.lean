/-
  DERIVED. GIVEN WITH THE SEED: THE CARDS: each row of YtafbmlhgcmlmpaaDoorRows.lean that lists a variable, with what it lists TIED to the program's text (the seventh form; the later family's looks); each row that meets fmt, with fmt's text TOLD by the authors' own Lean function (tested against real Go, not proved from fmt's source: count such statements apart). THE CARD IS WHAT COUNTS. Prove the row's statement (the work); the ties are given (YtafbmlhgcmlmpaaDoorTie.lean); close each card by the builder's one call (the guide's Derived/Test/ToyasCard.lean, 'card_holds'). Laid BY PROGRAM, IN A SANDBOX (cutbox-door.mjs). By AI agents, Wed Nov 11 2026. No macro, syntax, notation, axiom, sorry.
-/
import Derived.Test.YtafbmlhgcmlmpaaDoorRows
import GoSem.ClaimSeven
namespace Go.Proofs.YtafbmlhgcmlmpaaDoor
namespace Rows

/-- THE TIED CARD OF 'gramaryelaw22.TreeMays'. -/
def treeMaysCard : Claim7 := { stood := { row := treeMaysRow, standIns := [], harness := (true, "96ecd32a1199f02219dd76d714c6595d183c74f2c29ce386351414c50689577f"), looks := false }, kinds := [], alts := [], laidByText := true, laidKinds := [.data, .data, .data, .data], laidTests := true, laidLooks := .later }
def TreeMaysCardSaid : Prop := Claim7.holds Tryd.pinned (.plain (OpenSpec.ofChange treeMaysSpec)) treeMaysCard

/-- THE TIED CARD OF 'gramaryelaw22.TreeTexts'. -/
def treeTextsCard : Claim7 := { stood := { row := treeTextsRow, standIns := [], harness := (true, "96ecd32a1199f02219dd76d714c6595d183c74f2c29ce386351414c50689577f"), looks := false }, kinds := [], alts := [], laidByText := true, laidKinds := [.data, .data, .data, .data], laidTests := true, laidLooks := .later }
def TreeTextsCardSaid : Prop := Claim7.holds Tryd.pinned (.plain (OpenSpec.ofChange treeTextsSpec)) treeTextsCard

/-- THE TIED CARD OF 'gramaryelaw22.TreeApart'. -/
def treeApartCard : Claim7 := { stood := { row := treeApartRow, standIns := [], harness := (true, "96ecd32a1199f02219dd76d714c6595d183c74f2c29ce386351414c50689577f"), looks := false }, kinds := [], alts := [], laidByText := true, laidKinds := [.data, .data, .data, .data], laidTests := true, laidLooks := .later }
def TreeApartCardSaid : Prop := Claim7.holds Tryd.pinned (.plain (OpenSpec.ofChange treeApartSpec)) treeApartCard

/-- THE TIED CARD OF 'gramaryelaw43.ScriptPrints'. -/
def scriptPrintsCard : Claim7 := { stood := { row := scriptPrintsRow, standIns := [], harness := (true, "96ecd32a1199f02219dd76d714c6595d183c74f2c29ce386351414c50689577f"), looks := false }, kinds := [], alts := [], laidByText := true, laidKinds := [.data, .data, .pinned], laidTests := true, laidLooks := .later }
def ScriptPrintsCardSaid : Prop := Claim7.holds Tryd.pinned (.plain (OpenSpec.ofChange scriptPrintsSpec)) scriptPrintsCard

/-- THE TIED CARD OF 'gramaryelaw43.ScriptBack'. -/
def scriptBackCard : Claim7 := { stood := { row := scriptBackRow, standIns := [], harness := (true, "96ecd32a1199f02219dd76d714c6595d183c74f2c29ce386351414c50689577f"), looks := false }, kinds := [], alts := [], laidByText := true, laidKinds := [.data, .data, .pinned], laidTests := true, laidLooks := .later }
def ScriptBackCardSaid : Prop := Claim7.holds Tryd.pinned (.plain (OpenSpec.ofChange scriptBackSpec)) scriptBackCard

/-- THE TIED CARD OF 'gramaryelaw42.RailTurns'. -/
def railTurnsCard : Claim7 := { stood := { row := railTurnsRow, standIns := [], harness := (true, "96ecd32a1199f02219dd76d714c6595d183c74f2c29ce386351414c50689577f"), looks := false }, kinds := [], alts := [], laidByText := true, laidKinds := [.data], laidTests := true, laidLooks := .later }
def RailTurnsCardSaid : Prop := Claim7.holds Tryd.pinned (.plain (OpenSpec.ofChange railTurnsSpec)) railTurnsCard

/-- THE TIED CARD OF 'gramaryelaw42.RailLies'. -/
def railLiesCard : Claim7 := { stood := { row := railLiesRow, standIns := [], harness := (true, "96ecd32a1199f02219dd76d714c6595d183c74f2c29ce386351414c50689577f"), looks := false }, kinds := [], alts := [], laidByText := true, laidKinds := [.data], laidTests := true, laidLooks := .later }
def RailLiesCardSaid : Prop := Claim7.holds Tryd.pinned (.plain (OpenSpec.ofChange railLiesSpec)) railLiesCard

/-- THE SECOND FORM's CARD OF 'gramaryelaw22.TreeMays'. -/
def treeMaysUptoCard : Claim7 := { stood := { row := treeMaysUptoRow, standIns := [], harness := (true, "96ecd32a1199f02219dd76d714c6595d183c74f2c29ce386351414c50689577f"), looks := false }, kinds := [], alts := [], laidByText := true, laidKinds := [.data, .data, .data, .data], laidTests := true, laidLooks := .later }
def TreeMaysUptoCardSaid : Prop := Claim7.holds Tryd.pinned (.plain (OpenSpec.upto treeMaysSpec)) treeMaysUptoCard

/-- THE SECOND FORM's CARD OF 'gramaryelaw22.TreeTexts'. -/
def treeTextsUptoCard : Claim7 := { stood := { row := treeTextsUptoRow, standIns := [], harness := (true, "96ecd32a1199f02219dd76d714c6595d183c74f2c29ce386351414c50689577f"), looks := false }, kinds := [], alts := [], laidByText := true, laidKinds := [.data, .data, .data, .data], laidTests := true, laidLooks := .later }
def TreeTextsUptoCardSaid : Prop := Claim7.holds Tryd.pinned (.plain (OpenSpec.upto treeTextsSpec)) treeTextsUptoCard

/-- THE SECOND FORM's CARD OF 'gramaryelaw22.TreeApart'. -/
def treeApartUptoCard : Claim7 := { stood := { row := treeApartUptoRow, standIns := [], harness := (true, "96ecd32a1199f02219dd76d714c6595d183c74f2c29ce386351414c50689577f"), looks := false }, kinds := [], alts := [], laidByText := true, laidKinds := [.data, .data, .data, .data], laidTests := true, laidLooks := .later }
def TreeApartUptoCardSaid : Prop := Claim7.holds Tryd.pinned (.plain (OpenSpec.upto treeApartSpec)) treeApartUptoCard

/-- THE SECOND FORM's CARD OF 'gramaryelaw43.ScriptPrints'. -/
def scriptPrintsUptoCard : Claim7 := { stood := { row := scriptPrintsUptoRow, standIns := [], harness := (true, "96ecd32a1199f02219dd76d714c6595d183c74f2c29ce386351414c50689577f"), looks := false }, kinds := [], alts := [], laidByText := true, laidKinds := [.data, .data, .pinned], laidTests := true, laidLooks := .later }
def ScriptPrintsUptoCardSaid : Prop := Claim7.holds Tryd.pinned (.plain (OpenSpec.upto scriptPrintsSpec)) scriptPrintsUptoCard

/-- THE SECOND FORM's CARD OF 'gramaryelaw43.ScriptBack'. -/
def scriptBackUptoCard : Claim7 := { stood := { row := scriptBackUptoRow, standIns := [], harness := (true, "96ecd32a1199f02219dd76d714c6595d183c74f2c29ce386351414c50689577f"), looks := false }, kinds := [], alts := [], laidByText := true, laidKinds := [.data, .data, .pinned], laidTests := true, laidLooks := .later }
def ScriptBackUptoCardSaid : Prop := Claim7.holds Tryd.pinned (.plain (OpenSpec.upto scriptBackSpec)) scriptBackUptoCard

/-- THE SECOND FORM's CARD OF 'gramaryelaw42.RailTurns'. -/
def railTurnsUptoCard : Claim7 := { stood := { row := railTurnsUptoRow, standIns := [], harness := (true, "96ecd32a1199f02219dd76d714c6595d183c74f2c29ce386351414c50689577f"), looks := false }, kinds := [], alts := [], laidByText := true, laidKinds := [.data], laidTests := true, laidLooks := .later }
def RailTurnsUptoCardSaid : Prop := Claim7.holds Tryd.pinned (.plain (OpenSpec.upto railTurnsSpec)) railTurnsUptoCard

/-- THE SECOND FORM's CARD OF 'gramaryelaw42.RailLies'. -/
def railLiesUptoCard : Claim7 := { stood := { row := railLiesUptoRow, standIns := [], harness := (true, "96ecd32a1199f02219dd76d714c6595d183c74f2c29ce386351414c50689577f"), looks := false }, kinds := [], alts := [], laidByText := true, laidKinds := [.data], laidTests := true, laidLooks := .later }
def RailLiesUptoCardSaid : Prop := Claim7.holds Tryd.pinned (.plain (OpenSpec.upto railLiesSpec)) railLiesUptoCard
end Rows
end Go.Proofs.YtafbmlhgcmlmpaaDoor
