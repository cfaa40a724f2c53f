/-
  DERIVED. GIVEN WITH THE SEED: THE CARDS: each row of YthfgeelcbcgahaaGreatDoorRows.lean that lists a variable, with what it lists TIED to the program's text (the seventh form; the later family's looks); each row that meets fmt, with fmt's text TOLD by the authors' own Lean function (tested against real Go, not proved from fmt's source: count such statements apart). THE CARD IS WHAT COUNTS. Prove the row's statement (the work); the ties are given (YthfgeelcbcgahaaGreatDoorTie.lean); close each card by the builder's one call (the guide's Derived/Test/ToyasCard.lean, 'card_holds'). Laid BY PROGRAM, IN A SANDBOX (cutbox-door.mjs). By AI agents, Wed Nov 11 2026. No macro, syntax, notation, axiom, sorry.
-/
import Derived.Test.YthfgeelcbcgahaaGreatDoorRows
import GoSem.ClaimSeven
namespace Go.Proofs.YthfgeelcbcgahaaGreatDoor
namespace Rows

/-- THE TIED CARD OF 'antop.TopPay'. -/
def topPayCard : Claim7 := { stood := { row := topPayRow, standIns := [], harness := (true, "6dc420321f0260a9b45a9c0b13a6d6ea130c1265a33a88199d1526f3652f6896"), looks := true }, kinds := [], alts := [], laidByText := true, laidKinds := [.data, .data, .data, .data, .sentinel, .sentinel, .pinned], laidTests := true, laidLooks := .later }
def TopPayCardSaid : Prop := Claim7.holds Tryz.pinned (.plain (OpenSpec.ofChange topPaySpec)) topPayCard

/-- THE TIED CARD OF 'antop.TopBoth'. -/
def topBothCard : Claim7 := { stood := { row := topBothRow, standIns := [], harness := (true, "6dc420321f0260a9b45a9c0b13a6d6ea130c1265a33a88199d1526f3652f6896"), looks := true }, kinds := [], alts := [], laidByText := true, laidKinds := [.data, .data, .data, .data, .sentinel, .sentinel, .pinned], laidTests := true, laidLooks := .later }
def TopBothCardSaid : Prop := Claim7.holds Tryz.pinned (.plain (OpenSpec.ofChange topBothSpec)) topBothCard

/-- THE TIED CARD OF 'antop.TopDone'. -/
def topDoneCard : Claim7 := { stood := { row := topDoneRow, standIns := [], harness := (true, "6dc420321f0260a9b45a9c0b13a6d6ea130c1265a33a88199d1526f3652f6896"), looks := true }, kinds := [], alts := [], laidByText := true, laidKinds := [.data, .data, .data, .data, .sentinel, .sentinel, .pinned], laidTests := true, laidLooks := .later }
def TopDoneCardSaid : Prop := Claim7.holds Tryz.pinned (.plain (OpenSpec.ofChange topDoneSpec)) topDoneCard

/-- THE TIED CARD OF 'antop.TopApart'. -/
def topApartCard : Claim7 := { stood := { row := topApartRow, standIns := [], harness := (true, "6dc420321f0260a9b45a9c0b13a6d6ea130c1265a33a88199d1526f3652f6896"), looks := true }, kinds := [], alts := [], laidByText := true, laidKinds := [.data, .data, .data, .data, .sentinel, .sentinel, .pinned], laidTests := true, laidLooks := .later }
def TopApartCardSaid : Prop := Claim7.holds Tryz.pinned (.plain (OpenSpec.ofChange topApartSpec)) topApartCard

/-- THE SECOND FORM's CARD OF 'antop.TopPay'. -/
def topPayUptoCard : Claim7 := { stood := { row := topPayUptoRow, standIns := [], harness := (true, "6dc420321f0260a9b45a9c0b13a6d6ea130c1265a33a88199d1526f3652f6896"), looks := true }, kinds := [], alts := [], laidByText := true, laidKinds := [.data, .data, .data, .data, .sentinel, .sentinel, .pinned], laidTests := true, laidLooks := .later }
def TopPayUptoCardSaid : Prop := Claim7.holds Tryz.pinned (.plain (OpenSpec.upto topPaySpec)) topPayUptoCard

/-- THE SECOND FORM's CARD OF 'antop.TopBoth'. -/
def topBothUptoCard : Claim7 := { stood := { row := topBothUptoRow, standIns := [], harness := (true, "6dc420321f0260a9b45a9c0b13a6d6ea130c1265a33a88199d1526f3652f6896"), looks := true }, kinds := [], alts := [], laidByText := true, laidKinds := [.data, .data, .data, .data, .sentinel, .sentinel, .pinned], laidTests := true, laidLooks := .later }
def TopBothUptoCardSaid : Prop := Claim7.holds Tryz.pinned (.plain (OpenSpec.upto topBothSpec)) topBothUptoCard

/-- THE SECOND FORM's CARD OF 'antop.TopDone'. -/
def topDoneUptoCard : Claim7 := { stood := { row := topDoneUptoRow, standIns := [], harness := (true, "6dc420321f0260a9b45a9c0b13a6d6ea130c1265a33a88199d1526f3652f6896"), looks := true }, kinds := [], alts := [], laidByText := true, laidKinds := [.data, .data, .data, .data, .sentinel, .sentinel, .pinned], laidTests := true, laidLooks := .later }
def TopDoneUptoCardSaid : Prop := Claim7.holds Tryz.pinned (.plain (OpenSpec.upto topDoneSpec)) topDoneUptoCard

/-- THE SECOND FORM's CARD OF 'antop.TopApart'. -/
def topApartUptoCard : Claim7 := { stood := { row := topApartUptoRow, standIns := [], harness := (true, "6dc420321f0260a9b45a9c0b13a6d6ea130c1265a33a88199d1526f3652f6896"), looks := true }, kinds := [], alts := [], laidByText := true, laidKinds := [.data, .data, .data, .data, .sentinel, .sentinel, .pinned], laidTests := true, laidLooks := .later }
def TopApartUptoCardSaid : Prop := Claim7.holds Tryz.pinned (.plain (OpenSpec.upto topApartSpec)) topApartUptoCard
end Rows
end Go.Proofs.YthfgeelcbcgahaaGreatDoor
