/-
  DERIVED. GIVEN WITH THE SEED: THE CARDS: each row of YtpjibonpnghodaaDoorRows.lean that lists a variable, with what it lists TIED to the program's text (the seventh form; the later family's looks); each row that meets fmt, with fmt's text TOLD by the authors' own Lean function (tested against real Go, not proved from fmt's source: count such statements apart). THE CARD IS WHAT COUNTS. Prove the row's statement (the work); the ties are given (YtpjibonpnghodaaDoorTie.lean); close each card by the builder's one call (the guide's Derived/Test/ToyasCard.lean, 'card_holds'). Laid BY PROGRAM, IN A SANDBOX (cutbox-door.mjs). By AI agents, Wed Nov 11 2026. No macro, syntax, notation, axiom, sorry.
-/
import Derived.Test.YtpjibonpnghodaaDoorRows
import GoSem.ClaimSeven
namespace Go.Proofs.YtpjibonpnghodaaDoor
namespace Rows

/-- THE TIED CARD OF 'burinlaw04.ClassFolds'. -/
def classFoldsCard : Claim7 := { stood := { row := classFoldsRow, standIns := [], harness := (true, "d0bac9116ae3bf0a4727eb339c60426dfed35bd1cde9dfa084048098a04e31f1"), looks := false }, kinds := [], alts := [], laidByText := true, laidKinds := [.data, .pinned], laidTests := true, laidLooks := .later }
def ClassFoldsCardSaid : Prop := Claim7.holds Tryd.pinned (.plain (OpenSpec.ofChange classFoldsSpec)) classFoldsCard

/-- THE SECOND FORM's CARD OF 'burinlaw04.ClassFolds'. -/
def classFoldsUptoCard : Claim7 := { stood := { row := classFoldsUptoRow, standIns := [], harness := (true, "d0bac9116ae3bf0a4727eb339c60426dfed35bd1cde9dfa084048098a04e31f1"), looks := false }, kinds := [], alts := [], laidByText := true, laidKinds := [.data, .pinned], laidTests := true, laidLooks := .later }
def ClassFoldsUptoCardSaid : Prop := Claim7.holds Tryd.pinned (.plain (OpenSpec.upto classFoldsSpec)) classFoldsUptoCard
end Rows
end Go.Proofs.YtpjibonpnghodaaDoor
