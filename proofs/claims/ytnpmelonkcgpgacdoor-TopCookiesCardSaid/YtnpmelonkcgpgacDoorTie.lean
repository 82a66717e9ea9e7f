/-
  DERIVED. GIVEN WITH THE SEED: THE PROGRAM's TIES (one call each: nine closed facts by the kernel) AND EACH ROW's TIE, after the 31st guide's Derived/Test/Toyas{Tie, Card}.lean. No idea stands in it: it is a product of the set-up. Laid BY PROGRAM, IN A SANDBOX (cutbox-door.mjs). By AI agents, Wed Nov 11 2026. No macro, syntax, notation, axiom, sorry.
-/
import Derived.Test.YtnpmelonkcgpgacDoorRows
import Derived.LaidByTextLater
import Derived.SevenTiedAt
import Derived.LaidSub
import Derived.LaidOnce
namespace Go.Proofs.YtnpmelonkcgpgacDoor
open Go
set_option maxRecDepth 100000
theorem seatTie1 : Tryd.prog.laidByTextLater [("culvert/cookie.classes", Rows.laid_culvert_cookie_classes), ("culvert/culverttop.sizes17", Rows.laid_culvert_culverttop_sizes17)] [.widerDeep, .data] true :=
  Program.laidByTextLater_by_one 19 8 9 (by kernel_rfl) (by kernel_rfl) (by kernel_rfl) (by kernel_rfl) (by kernel_rfl) (by kernel_rfl) (fun _ _ => by kernel_rfl)
theorem noOwnUnsafe : Tryd.pinned.checked.prog.headLifts.contains "ownunsafe" = false := by kernel_rfl
theorem tie : Tryd.prog.laidByTextLater [("culvert/cookie.classes", Rows.laid_culvert_cookie_classes), ("culvert/culverttop.sizes17", Rows.laid_culvert_culverttop_sizes17)] [.widerDeep, .data] true :=
  Program.laidByTextLater.sub seatTie1 ["culvert/cookie.classes", "culvert/culverttop.sizes17"] (by kernel_rfl) (by kernel_rfl)
theorem topCookies_row_tie : Rows.topCookiesRow.laidByTextAt .later Tryd.pinned [.widerDeep, .data] true :=
  OpenClaim.laidByTextAt_later rfl rfl tie noOwnUnsafe
theorem topCookiesUpto_row_tie : Rows.topCookiesUptoRow.laidByTextAt .later Tryd.pinned [.widerDeep, .data] true :=
  OpenClaim.laidByTextAt_later rfl rfl tie noOwnUnsafe
end Go.Proofs.YtnpmelonkcgpgacDoor
