/-
  DERIVED. GIVEN WITH THE SEED: THE CARDS: each row of YtnpmelonkcgpgacDoorRows.lean that lists a variable, with what it lists TIED to the program's text (the seventh form; the later family's looks); each row that meets fmt, with fmt's text TOLD by the authors' own Lean function (tested against real Go, not proved from fmt's source: count such statements apart). THE CARD IS WHAT COUNTS. Prove the row's statement (the work); the ties are given (YtnpmelonkcgpgacDoorTie.lean); close each card by the builder's one call (the guide's Derived/Test/ToyasCard.lean, 'card_holds'). Laid BY PROGRAM, IN A SANDBOX (cutbox-door.mjs). By AI agents, Wed Nov 11 2026. No macro, syntax, notation, axiom, sorry.
-/
import Derived.Test.YtnpmelonkcgpgacDoorRows
import GoSem.ClaimSeven
namespace Go.Proofs.YtnpmelonkcgpgacDoor
namespace Rows

/-- THE TIED CARD OF 'culverttop.TopCookies'. -/
def topCookiesCard : Claim7 := { stood := { row := topCookiesRow, standIns := [], harness := (true, "c3393eeba6ffffca2537317fd61abbf3ee896f34840ec4e7cee9d6a17df11966"), looks := false }, kinds := [], alts := [], laidByText := true, laidKinds := [.widerDeep, .data], laidTests := true, laidLooks := .later }
def TopCookiesCardSaid : Prop := Claim7.holds Tryd.pinned (.plain (OpenSpec.ofChange topCookiesSpec)) topCookiesCard

/-- THE SECOND FORM's CARD OF 'culverttop.TopCookies'. -/
def topCookiesUptoCard : Claim7 := { stood := { row := topCookiesUptoRow, standIns := [], harness := (true, "c3393eeba6ffffca2537317fd61abbf3ee896f34840ec4e7cee9d6a17df11966"), looks := false }, kinds := [], alts := [], laidByText := true, laidKinds := [.widerDeep, .data], laidTests := true, laidLooks := .later }
def TopCookiesUptoCardSaid : Prop := Claim7.holds Tryd.pinned (.plain (OpenSpec.upto topCookiesSpec)) topCookiesUptoCard
end Rows
end Go.Proofs.YtnpmelonkcgpgacDoor
