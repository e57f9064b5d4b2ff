/-
  DERIVED. GIVEN WITH THE SEED: THE PROGRAM's TIES (one call each: nine closed facts by the kernel) AND EACH ROW's TIE, after the 31st guide's Derived/Test/Toyas{Tie, Card}.lean. No idea stands in it: it is a product of the set-up. Laid BY PROGRAM, IN A SANDBOX (cutbox-door.mjs). By AI agents, Wed Nov 11 2026. No macro, syntax, notation, axiom, sorry.
-/
import Derived.Test.YtmjpbmcbcppkfaaGreatDoorRows
import Derived.LaidByTextLater
import Derived.SevenTiedAt
import Derived.LaidSub
import Derived.LaidOnce
namespace Go.Proofs.YtmjpbmcbcppkfaaGreatDoor
open Go
set_option maxRecDepth 100000
theorem seatTie1 : Tryz.prog.laidByTextLater [("lintel/crc.table", Rows.laid_lintel_crc_table), ("lintel/cms.hashes", Rows.laid_lintel_cms_hashes), ("lintel/cms.ciphers", Rows.laid_lintel_cms_ciphers), ("lintel/cms.wrapped", Rows.laid_lintel_cms_wrapped), ("lintel/cms.kinds", Rows.laid_lintel_cms_kinds), ("lintel/cms.digests", Rows.laid_lintel_cms_digests)] [.data, .widerDeep, .widerDeep, .widerDeep, .widerDeep, .widerDeep] true :=
  Program.laidByTextLater_by_one 39 8 17 (by kernel_rfl) (by kernel_rfl) (by kernel_rfl) (by kernel_rfl) (by kernel_rfl) (by kernel_rfl) (fun _ _ => by kernel_rfl)
theorem noOwnUnsafe : Tryz.pinned.checked.prog.headLifts.contains "ownunsafe" = false := by kernel_rfl
theorem tie : Tryz.prog.laidByTextLater [("lintel/crc.table", Rows.laid_lintel_crc_table), ("lintel/cms.hashes", Rows.laid_lintel_cms_hashes), ("lintel/cms.ciphers", Rows.laid_lintel_cms_ciphers), ("lintel/cms.wrapped", Rows.laid_lintel_cms_wrapped), ("lintel/cms.kinds", Rows.laid_lintel_cms_kinds), ("lintel/cms.digests", Rows.laid_lintel_cms_digests)] [.data, .widerDeep, .widerDeep, .widerDeep, .widerDeep, .widerDeep] true :=
  Program.laidByTextLater.sub seatTie1 ["lintel/crc.table", "lintel/cms.hashes", "lintel/cms.ciphers", "lintel/cms.wrapped", "lintel/cms.kinds", "lintel/cms.digests"] (by kernel_rfl) (by kernel_rfl)
theorem varsJoins_row_tie : Rows.varsJoinsRow.laidByTextAt .later Tryz.pinned [.data, .widerDeep, .widerDeep, .widerDeep, .widerDeep, .widerDeep] true :=
  OpenClaim.laidByTextAt_later rfl rfl tie noOwnUnsafe
theorem varsFull_row_tie : Rows.varsFullRow.laidByTextAt .later Tryz.pinned [.data, .widerDeep, .widerDeep, .widerDeep, .widerDeep, .widerDeep] true :=
  OpenClaim.laidByTextAt_later rfl rfl tie noOwnUnsafe
theorem varsNil_row_tie : Rows.varsNilRow.laidByTextAt .later Tryz.pinned [.data, .widerDeep, .widerDeep, .widerDeep, .widerDeep, .widerDeep] true :=
  OpenClaim.laidByTextAt_later rfl rfl tie noOwnUnsafe
theorem varsJoinsUpto_row_tie : Rows.varsJoinsUptoRow.laidByTextAt .later Tryz.pinned [.data, .widerDeep, .widerDeep, .widerDeep, .widerDeep, .widerDeep] true :=
  OpenClaim.laidByTextAt_later rfl rfl tie noOwnUnsafe
theorem varsFullUpto_row_tie : Rows.varsFullUptoRow.laidByTextAt .later Tryz.pinned [.data, .widerDeep, .widerDeep, .widerDeep, .widerDeep, .widerDeep] true :=
  OpenClaim.laidByTextAt_later rfl rfl tie noOwnUnsafe
theorem varsNilUpto_row_tie : Rows.varsNilUptoRow.laidByTextAt .later Tryz.pinned [.data, .widerDeep, .widerDeep, .widerDeep, .widerDeep, .widerDeep] true :=
  OpenClaim.laidByTextAt_later rfl rfl tie noOwnUnsafe
end Go.Proofs.YtmjpbmcbcppkfaaGreatDoor
