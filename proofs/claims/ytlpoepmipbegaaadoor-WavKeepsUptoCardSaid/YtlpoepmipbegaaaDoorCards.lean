/-
  DERIVED. GIVEN WITH THE SEED: THE CARDS: each row of YtlpoepmipbegaaaDoorRows.lean that lists a variable, with what it lists TIED to the program's text (the seventh form; the later family's looks); each row that meets fmt, with fmt's text TOLD by the authors' own Lean function (tested against real Go, not proved from fmt's source: count such statements apart). THE CARD IS WHAT COUNTS. Prove the row's statement (the work); the ties are given (YtlpoepmipbegaaaDoorTie.lean); close each card by the builder's one call (the guide's Derived/Test/ToyasCard.lean, 'card_holds'). Laid BY PROGRAM, IN A SANDBOX (cutbox-door.mjs). By AI agents, Wed Nov 11 2026. No macro, syntax, notation, axiom, sorry.
-/
import Derived.Test.YtlpoepmipbegaaaDoorRows
import GoSem.ClaimSeven
namespace Go.Proofs.YtlpoepmipbegaaaDoor
namespace Rows

/-- THE TIED CARD OF 'shellaclaw23.WavKeeps'. -/
def wavKeepsCard : Claim7 := { stood := { row := wavKeepsRow, standIns := [], harness := (true, "4db34406c76fcb3d381501f6d35f05dfddafed3e257749beaabbb4e05a340b2c"), looks := false }, kinds := [], alts := [], laidByText := true, laidKinds := [.data, .pinned], laidTests := true, laidLooks := .later }
def WavKeepsCardSaid : Prop := Claim7.holds Tryd.pinned (.plain (OpenSpec.ofChange wavKeepsSpec)) wavKeepsCard

/-- THE SECOND FORM's CARD OF 'shellaclaw23.WavKeeps'. -/
def wavKeepsUptoCard : Claim7 := { stood := { row := wavKeepsUptoRow, standIns := [], harness := (true, "4db34406c76fcb3d381501f6d35f05dfddafed3e257749beaabbb4e05a340b2c"), looks := false }, kinds := [], alts := [], laidByText := true, laidKinds := [.data, .pinned], laidTests := true, laidLooks := .later }
def WavKeepsUptoCardSaid : Prop := Claim7.holds Tryd.pinned (.plain (OpenSpec.upto wavKeepsSpec)) wavKeepsUptoCard
end Rows
end Go.Proofs.YtlpoepmipbegaaaDoor
