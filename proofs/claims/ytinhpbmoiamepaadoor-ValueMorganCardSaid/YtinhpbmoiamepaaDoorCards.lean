/-
  DERIVED. GIVEN WITH THE SEED: THE CARDS: each row of YtinhpbmoiamepaaDoorRows.lean that lists a variable, with what it lists TIED to the program's text (the seventh form; the later family's looks); each row that meets fmt, with fmt's text TOLD by the authors' own Lean function (tested against real Go, not proved from fmt's source: count such statements apart). THE CARD IS WHAT COUNTS. Prove the row's statement (the work); the ties are given (YtinhpbmoiamepaaDoorTie.lean); close each card by the builder's one call (the guide's Derived/Test/ToyasCard.lean, 'card_holds'). Laid BY PROGRAM, IN A SANDBOX (cutbox-door.mjs). By AI agents, Wed Nov 11 2026. No macro, syntax, notation, axiom, sorry.
-/
import Derived.Test.YtinhpbmoiamepaaDoorRows
import GoSem.ClaimSeven
namespace Go.Proofs.YtinhpbmoiamepaaDoor
namespace Rows

/-- THE TIED CARD OF 'tacticianlaw01.ValueParses'. -/
def valueParsesCard : Claim7 := { stood := { row := valueParsesRow, standIns := [], harness := (true, "db12e91ddf4fa0b06bbca2f722f6c71296b3bcd9e1915e4c0bf5fb9b4f11510a"), looks := true }, kinds := [], alts := [], laidByText := true, laidKinds := [.data, .data, .data, .data, .sentinel, .sentinel, .pinned], laidTests := true, laidLooks := .later }
def ValueParsesCardSaid : Prop := Claim7.holds Tryd.pinned (.plain (OpenSpec.ofChange valueParsesSpec)) valueParsesCard

/-- THE TIED CARD OF 'tacticianlaw01.ValueForms'. -/
def valueFormsCard : Claim7 := { stood := { row := valueFormsRow, standIns := [], harness := (true, "db12e91ddf4fa0b06bbca2f722f6c71296b3bcd9e1915e4c0bf5fb9b4f11510a"), looks := true }, kinds := [], alts := [], laidByText := true, laidKinds := [.data, .data, .data, .data, .sentinel, .sentinel, .pinned], laidTests := true, laidLooks := .later }
def ValueFormsCardSaid : Prop := Claim7.holds Tryd.pinned (.plain (OpenSpec.ofChange valueFormsSpec)) valueFormsCard

/-- THE TIED CARD OF 'tacticianlaw01.ValueBack'. -/
def valueBackCard : Claim7 := { stood := { row := valueBackRow, standIns := [], harness := (true, "db12e91ddf4fa0b06bbca2f722f6c71296b3bcd9e1915e4c0bf5fb9b4f11510a"), looks := true }, kinds := [], alts := [], laidByText := true, laidKinds := [.data, .data, .data, .data, .sentinel, .sentinel, .pinned], laidTests := true, laidLooks := .later }
def ValueBackCardSaid : Prop := Claim7.holds Tryd.pinned (.plain (OpenSpec.ofChange valueBackSpec)) valueBackCard

/-- THE TIED CARD OF 'tacticianlaw01.ValueMorgan'. -/
def valueMorganCard : Claim7 := { stood := { row := valueMorganRow, standIns := [], harness := (true, "db12e91ddf4fa0b06bbca2f722f6c71296b3bcd9e1915e4c0bf5fb9b4f11510a"), looks := true }, kinds := [], alts := [], laidByText := true, laidKinds := [.data, .data, .data, .data, .sentinel, .sentinel, .pinned], laidTests := true, laidLooks := .later }
def ValueMorganCardSaid : Prop := Claim7.holds Tryd.pinned (.plain (OpenSpec.ofChange valueMorganSpec)) valueMorganCard

/-- THE SECOND FORM's CARD OF 'tacticianlaw01.ValueParses'. -/
def valueParsesUptoCard : Claim7 := { stood := { row := valueParsesUptoRow, standIns := [], harness := (true, "db12e91ddf4fa0b06bbca2f722f6c71296b3bcd9e1915e4c0bf5fb9b4f11510a"), looks := true }, kinds := [], alts := [], laidByText := true, laidKinds := [.data, .data, .data, .data, .sentinel, .sentinel, .pinned], laidTests := true, laidLooks := .later }
def ValueParsesUptoCardSaid : Prop := Claim7.holds Tryd.pinned (.plain (OpenSpec.upto valueParsesSpec)) valueParsesUptoCard

/-- THE SECOND FORM's CARD OF 'tacticianlaw01.ValueForms'. -/
def valueFormsUptoCard : Claim7 := { stood := { row := valueFormsUptoRow, standIns := [], harness := (true, "db12e91ddf4fa0b06bbca2f722f6c71296b3bcd9e1915e4c0bf5fb9b4f11510a"), looks := true }, kinds := [], alts := [], laidByText := true, laidKinds := [.data, .data, .data, .data, .sentinel, .sentinel, .pinned], laidTests := true, laidLooks := .later }
def ValueFormsUptoCardSaid : Prop := Claim7.holds Tryd.pinned (.plain (OpenSpec.upto valueFormsSpec)) valueFormsUptoCard

/-- THE SECOND FORM's CARD OF 'tacticianlaw01.ValueBack'. -/
def valueBackUptoCard : Claim7 := { stood := { row := valueBackUptoRow, standIns := [], harness := (true, "db12e91ddf4fa0b06bbca2f722f6c71296b3bcd9e1915e4c0bf5fb9b4f11510a"), looks := true }, kinds := [], alts := [], laidByText := true, laidKinds := [.data, .data, .data, .data, .sentinel, .sentinel, .pinned], laidTests := true, laidLooks := .later }
def ValueBackUptoCardSaid : Prop := Claim7.holds Tryd.pinned (.plain (OpenSpec.upto valueBackSpec)) valueBackUptoCard

/-- THE SECOND FORM's CARD OF 'tacticianlaw01.ValueMorgan'. -/
def valueMorganUptoCard : Claim7 := { stood := { row := valueMorganUptoRow, standIns := [], harness := (true, "db12e91ddf4fa0b06bbca2f722f6c71296b3bcd9e1915e4c0bf5fb9b4f11510a"), looks := true }, kinds := [], alts := [], laidByText := true, laidKinds := [.data, .data, .data, .data, .sentinel, .sentinel, .pinned], laidTests := true, laidLooks := .later }
def ValueMorganUptoCardSaid : Prop := Claim7.holds Tryd.pinned (.plain (OpenSpec.upto valueMorganSpec)) valueMorganUptoCard
end Rows
end Go.Proofs.YtinhpbmoiamepaaDoor
