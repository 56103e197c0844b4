/-
  DERIVED. GIVEN WITH THE SEED: THE CARDS: each row of YtnaccglcbfeenaaGreatDoorRows.lean that lists a variable, with what it lists TIED to the program's text (the seventh form; the later family's looks); each row that meets fmt, with fmt's text TOLD by the authors' own Lean function (tested against real Go, not proved from fmt's source: count such statements apart). THE CARD IS WHAT COUNTS. Prove the row's statement (the work); the ties are given (YtnaccglcbfeenaaGreatDoorTie.lean); close each card by the builder's one call (the guide's Derived/Test/ToyasCard.lean, 'card_holds'). Laid BY PROGRAM, IN A SANDBOX (cutbox-door.mjs). By AI agents, Wed Nov 11 2026. No macro, syntax, notation, axiom, sorry.
-/
import Derived.Test.YtnaccglcbfeenaaGreatDoorRows
import GoSem.ClaimSeven
namespace Go.Proofs.YtnaccglcbfeenaaGreatDoor
namespace Rows

/-- THE TIED CARD OF 'cognatelaw06.AutoTwo'. -/
def autoTwoCard : Claim7 := { stood := { row := autoTwoRow, standIns := [], harness := (true, "06bf0947285258b77def76acee5bde47481522bbe3d4c242c5a5d24c059f2670"), looks := false }, kinds := [], alts := [], laidByText := true, laidKinds := [.data, .pinned], laidTests := true, laidLooks := .later }
def AutoTwoCardSaid : Prop := Claim7.holds Tryz.pinned (.plain (OpenSpec.ofChange autoTwoSpec)) autoTwoCard

/-- THE TIED CARD OF 'cognatelaw06.AutoOf'. -/
def autoOfCard : Claim7 := { stood := { row := autoOfRow, standIns := [], harness := (true, "06bf0947285258b77def76acee5bde47481522bbe3d4c242c5a5d24c059f2670"), looks := false }, kinds := [], alts := [], laidByText := true, laidKinds := [.data, .pinned], laidTests := true, laidLooks := .later }
def AutoOfCardSaid : Prop := Claim7.holds Tryz.pinned (.plain (OpenSpec.ofChange autoOfSpec)) autoOfCard

/-- THE TIED CARD OF 'cognatelaw06.AutoOne'. -/
def autoOneCard : Claim7 := { stood := { row := autoOneRow, standIns := [], harness := (true, "06bf0947285258b77def76acee5bde47481522bbe3d4c242c5a5d24c059f2670"), looks := false }, kinds := [], alts := [], laidByText := true, laidKinds := [.data, .pinned], laidTests := true, laidLooks := .later }
def AutoOneCardSaid : Prop := Claim7.holds Tryz.pinned (.plain (OpenSpec.ofChange autoOneSpec)) autoOneCard

/-- THE TIED CARD OF 'cognatelaw06.AutoList'. -/
def autoListCard : Claim7 := { stood := { row := autoListRow, standIns := [], harness := (true, "06bf0947285258b77def76acee5bde47481522bbe3d4c242c5a5d24c059f2670"), looks := false }, kinds := [], alts := [], laidByText := true, laidKinds := [.data, .pinned], laidTests := true, laidLooks := .later }
def AutoListCardSaid : Prop := Claim7.holds Tryz.pinned (.plain (OpenSpec.ofChange autoListSpec)) autoListCard

/-- THE TIED CARD OF 'cognatelaw06.AutoPattern'. -/
def autoPatternCard : Claim7 := { stood := { row := autoPatternRow, standIns := [], harness := (true, "06bf0947285258b77def76acee5bde47481522bbe3d4c242c5a5d24c059f2670"), looks := false }, kinds := [], alts := [], laidByText := true, laidKinds := [.data, .pinned], laidTests := true, laidLooks := .later }
def AutoPatternCardSaid : Prop := Claim7.holds Tryz.pinned (.plain (OpenSpec.ofChange autoPatternSpec)) autoPatternCard

/-- THE SECOND FORM's CARD OF 'cognatelaw06.AutoTwo'. -/
def autoTwoUptoCard : Claim7 := { stood := { row := autoTwoUptoRow, standIns := [], harness := (true, "06bf0947285258b77def76acee5bde47481522bbe3d4c242c5a5d24c059f2670"), looks := false }, kinds := [], alts := [], laidByText := true, laidKinds := [.data, .pinned], laidTests := true, laidLooks := .later }
def AutoTwoUptoCardSaid : Prop := Claim7.holds Tryz.pinned (.plain (OpenSpec.upto autoTwoSpec)) autoTwoUptoCard

/-- THE SECOND FORM's CARD OF 'cognatelaw06.AutoOf'. -/
def autoOfUptoCard : Claim7 := { stood := { row := autoOfUptoRow, standIns := [], harness := (true, "06bf0947285258b77def76acee5bde47481522bbe3d4c242c5a5d24c059f2670"), looks := false }, kinds := [], alts := [], laidByText := true, laidKinds := [.data, .pinned], laidTests := true, laidLooks := .later }
def AutoOfUptoCardSaid : Prop := Claim7.holds Tryz.pinned (.plain (OpenSpec.upto autoOfSpec)) autoOfUptoCard

/-- THE SECOND FORM's CARD OF 'cognatelaw06.AutoOne'. -/
def autoOneUptoCard : Claim7 := { stood := { row := autoOneUptoRow, standIns := [], harness := (true, "06bf0947285258b77def76acee5bde47481522bbe3d4c242c5a5d24c059f2670"), looks := false }, kinds := [], alts := [], laidByText := true, laidKinds := [.data, .pinned], laidTests := true, laidLooks := .later }
def AutoOneUptoCardSaid : Prop := Claim7.holds Tryz.pinned (.plain (OpenSpec.upto autoOneSpec)) autoOneUptoCard

/-- THE SECOND FORM's CARD OF 'cognatelaw06.AutoList'. -/
def autoListUptoCard : Claim7 := { stood := { row := autoListUptoRow, standIns := [], harness := (true, "06bf0947285258b77def76acee5bde47481522bbe3d4c242c5a5d24c059f2670"), looks := false }, kinds := [], alts := [], laidByText := true, laidKinds := [.data, .pinned], laidTests := true, laidLooks := .later }
def AutoListUptoCardSaid : Prop := Claim7.holds Tryz.pinned (.plain (OpenSpec.upto autoListSpec)) autoListUptoCard

/-- THE SECOND FORM's CARD OF 'cognatelaw06.AutoPattern'. -/
def autoPatternUptoCard : Claim7 := { stood := { row := autoPatternUptoRow, standIns := [], harness := (true, "06bf0947285258b77def76acee5bde47481522bbe3d4c242c5a5d24c059f2670"), looks := false }, kinds := [], alts := [], laidByText := true, laidKinds := [.data, .pinned], laidTests := true, laidLooks := .later }
def AutoPatternUptoCardSaid : Prop := Claim7.holds Tryz.pinned (.plain (OpenSpec.upto autoPatternSpec)) autoPatternUptoCard
end Rows
end Go.Proofs.YtnaccglcbfeenaaGreatDoor
