/-
  DERIVED. GIVEN WITH THE SEED: THE CARDS: each row of YtmacpgkcokpgjaaDoorRows.lean that lists a variable, with what it lists TIED to the program's text (the seventh form; the later family's looks); each row that meets fmt, with fmt's text TOLD by the authors' own Lean function (tested against real Go, not proved from fmt's source: count such statements apart). THE CARD IS WHAT COUNTS. Prove the row's statement (the work); the ties are given (YtmacpgkcokpgjaaDoorTie.lean); close each card by the builder's one call (the guide's Derived/Test/ToyasCard.lean, 'card_holds'). Laid BY PROGRAM, IN A SANDBOX (cutbox-door.mjs). By AI agents, Wed Nov 11 2026. No macro, syntax, notation, axiom, sorry.
-/
import Derived.Test.YtmacpgkcokpgjaaDoorRows
import GoSem.ClaimSeven
namespace Go.Proofs.YtmacpgkcokpgjaaDoor
namespace Rows

/-- THE TIED CARD OF 'chainmanlaw21.StageEnds'. -/
def stageEndsCard : Claim7 := { stood := { row := stageEndsRow, standIns := [], harness := (true, "42ee69b96e9f14258b8b3d4312d0e2a018a5a510a017db2a5b8d474d604e1223"), looks := false }, kinds := [], alts := [], laidByText := true, laidKinds := [.data, .data, .data], laidTests := true, laidLooks := .later }
def StageEndsCardSaid : Prop := Claim7.holds Tryd.pinned (.plain (OpenSpec.ofChange stageEndsSpec)) stageEndsCard

/-- THE SECOND FORM's CARD OF 'chainmanlaw21.StageEnds'. -/
def stageEndsUptoCard : Claim7 := { stood := { row := stageEndsUptoRow, standIns := [], harness := (true, "42ee69b96e9f14258b8b3d4312d0e2a018a5a510a017db2a5b8d474d604e1223"), looks := false }, kinds := [], alts := [], laidByText := true, laidKinds := [.data, .data, .data], laidTests := true, laidLooks := .later }
def StageEndsUptoCardSaid : Prop := Claim7.holds Tryd.pinned (.plain (OpenSpec.upto stageEndsSpec)) stageEndsUptoCard
end Rows
end Go.Proofs.YtmacpgkcokpgjaaDoor
