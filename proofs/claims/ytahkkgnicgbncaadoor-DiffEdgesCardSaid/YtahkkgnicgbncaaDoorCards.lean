/-
  DERIVED. GIVEN WITH THE SEED: THE CARDS: each row of YtahkkgnicgbncaaDoorRows.lean that lists a variable, with what it lists TIED to the program's text (the seventh form; the later family's looks); each row that meets fmt, with fmt's text TOLD by the authors' own Lean function (tested against real Go, not proved from fmt's source: count such statements apart). THE CARD IS WHAT COUNTS. Prove the row's statement (the work); the ties are given (YtahkkgnicgbncaaDoorTie.lean); close each card by the builder's one call (the guide's Derived/Test/ToyasCard.lean, 'card_holds'). Laid BY PROGRAM, IN A SANDBOX (cutbox-door.mjs). By AI agents, Wed Nov 11 2026. No macro, syntax, notation, axiom, sorry.
-/
import Derived.Test.YtahkkgnicgbncaaDoorRows
import GoSem.ClaimSeven
namespace Go.Proofs.YtahkkgnicgbncaaDoor
namespace Rows

/-- THE TIED CARD OF 'chainmanlaw50.DiffApplies'. -/
def diffAppliesCard : Claim7 := { stood := { row := diffAppliesRow, standIns := [], harness := (true, "8f21b7ec27e3f7e469a3816c7a0f86bf176c9d8c26761182336c396dae137cc9"), looks := false }, kinds := [], alts := [], laidByText := true, laidKinds := [.data, .data, .data], laidTests := true, laidLooks := .later }
def DiffAppliesCardSaid : Prop := Claim7.holds Tryd.pinned (.plain (OpenSpec.ofChange diffAppliesSpec)) diffAppliesCard

/-- THE TIED CARD OF 'chainmanlaw50.DiffEdges'. -/
def diffEdgesCard : Claim7 := { stood := { row := diffEdgesRow, standIns := [], harness := (true, "8f21b7ec27e3f7e469a3816c7a0f86bf176c9d8c26761182336c396dae137cc9"), looks := false }, kinds := [], alts := [], laidByText := true, laidKinds := [.data, .data, .data], laidTests := true, laidLooks := .later }
def DiffEdgesCardSaid : Prop := Claim7.holds Tryd.pinned (.plain (OpenSpec.ofChange diffEdgesSpec)) diffEdgesCard

/-- THE SECOND FORM's CARD OF 'chainmanlaw50.DiffApplies'. -/
def diffAppliesUptoCard : Claim7 := { stood := { row := diffAppliesUptoRow, standIns := [], harness := (true, "8f21b7ec27e3f7e469a3816c7a0f86bf176c9d8c26761182336c396dae137cc9"), looks := false }, kinds := [], alts := [], laidByText := true, laidKinds := [.data, .data, .data], laidTests := true, laidLooks := .later }
def DiffAppliesUptoCardSaid : Prop := Claim7.holds Tryd.pinned (.plain (OpenSpec.upto diffAppliesSpec)) diffAppliesUptoCard

/-- THE SECOND FORM's CARD OF 'chainmanlaw50.DiffEdges'. -/
def diffEdgesUptoCard : Claim7 := { stood := { row := diffEdgesUptoRow, standIns := [], harness := (true, "8f21b7ec27e3f7e469a3816c7a0f86bf176c9d8c26761182336c396dae137cc9"), looks := false }, kinds := [], alts := [], laidByText := true, laidKinds := [.data, .data, .data], laidTests := true, laidLooks := .later }
def DiffEdgesUptoCardSaid : Prop := Claim7.holds Tryd.pinned (.plain (OpenSpec.upto diffEdgesSpec)) diffEdgesUptoCard
end Rows
end Go.Proofs.YtahkkgnicgbncaaDoor
