/-
  DERIVED. GIVEN WITH THE SEED: THE CARDS: each row of YtjpkcbkkjefekaaGreatDoorRows.lean that lists a variable, with what it lists TIED to the program's text (the seventh form; the later family's looks); each row that meets fmt, with fmt's text TOLD by the authors' own Lean function (tested against real Go, not proved from fmt's source: count such statements apart). THE CARD IS WHAT COUNTS. Prove the row's statement (the work); the ties are given (YtjpkcbkkjefekaaGreatDoorTie.lean); close each card by the builder's one call (the guide's Derived/Test/ToyasCard.lean, 'card_holds'). Laid BY PROGRAM, IN A SANDBOX (cutbox-door.mjs). By AI agents, Wed Nov 11 2026. No macro, syntax, notation, axiom, sorry.
-/
import Derived.Test.YtjpkcbkkjefekaaGreatDoorRows
import GoSem.ClaimSeven
namespace Go.Proofs.YtjpkcbkkjefekaaGreatDoor
namespace Rows

/-- THE TIED CARD OF 'laws.FnExactFuncText'. -/
def fnExactFuncTextCard : Claim7 := { stood := { row := fnExactFuncTextRow, standIns := [], harness := (true, "f3520592a0b754b3aac1440d808f1f3c1e2c316363de3911648f944d8cd7cb16"), looks := false }, kinds := [], alts := [], laidByText := true, laidKinds := [.data, .data, .data], laidTests := true, laidLooks := .later }
def FnExactFuncTextCardSaid : Prop := Claim7.holds Tryz.pinned (.plain (OpenSpec.ofChange fnExactFuncTextSpec)) fnExactFuncTextCard

/-- THE SECOND FORM's CARD OF 'laws.FnExactFuncText'. -/
def fnExactFuncTextUptoCard : Claim7 := { stood := { row := fnExactFuncTextUptoRow, standIns := [], harness := (true, "f3520592a0b754b3aac1440d808f1f3c1e2c316363de3911648f944d8cd7cb16"), looks := false }, kinds := [], alts := [], laidByText := true, laidKinds := [.data, .data, .data], laidTests := true, laidLooks := .later }
def FnExactFuncTextUptoCardSaid : Prop := Claim7.holds Tryz.pinned (.plain (OpenSpec.upto fnExactFuncTextSpec)) fnExactFuncTextUptoCard
end Rows
end Go.Proofs.YtjpkcbkkjefekaaGreatDoor
