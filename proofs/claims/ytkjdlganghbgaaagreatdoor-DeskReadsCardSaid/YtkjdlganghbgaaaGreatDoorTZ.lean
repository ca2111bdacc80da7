/- The row's tie to the program's text: the given text's own words, its closed facts proved one by one. -/
import Derived.Test.YtkjdlganghbgaaaGreatDoorT1
import Derived.Test.YtkjdlganghbgaaaGreatDoorT2
import Derived.Test.YtkjdlganghbgaaaGreatDoorT3
namespace Go.Proofs.YtkjdlganghbgaaaGreatDoor
open Go
theorem pin_laid_unicode_utf8_first : Tryz.pinned.checked.prog.pinnedFits "unicode/utf8.first" = true := by kernel_rfl
theorem noOwnUnsafe : Tryz.pinned.checked.prog.headLifts.contains "ownunsafe" = false := by kernel_rfl
theorem fits1 : Tryz.pinned.checked.prog.listedFits [("unicode/utf8.first", Rows.laid_unicode_utf8_first), ("unicode/utf8.acceptRanges", Rows.laid_unicode_utf8_acceptRanges), ("strconv.ErrSyntax", Rows.laid_strconv_ErrSyntax), ("strconv.ErrRange", Rows.laid_strconv_ErrRange), ("internal/strconv.uint64pow10", Rows.laid_internal_strconv_uint64pow10), ("math/bits.deBruijn32tab", Rows.laid_math_bits_deBruijn32tab), ("math/bits.deBruijn64tab", Rows.laid_math_bits_deBruijn64tab)] = true := by
  unfold Program.listedFits
  rw [noOwnUnsafe]
  kernel_rfl
theorem tied : Tryz.prog.laidByTextLater tiedL [.data, .sentinel, .sentinel, .data, .data, .data] true :=
  Program.laidByTextLater_by_run 400 8 tw tw2 troot tk tg (by rw [tv]; exact tn) (fun os tape => by rw [tv]; exact td os tape) (fun os tape => by rw [tv]; exact th1 os tape) (fun os tape => by rw [tv]; exact th2 os tape) thp
theorem deskReads_row_tie : Rows.deskReadsRow.laidByTextAt .later Tryz.pinned [.pinned, .data, .sentinel, .sentinel, .data, .data, .data] true :=
  OpenClaim.laidByTextAt_pinned rfl rfl tied rfl rfl rfl rfl (fun y hy _e => by
    simp only [Rows.deskReadsRow, List.zip_cons_cons, List.zip_nil_right, List.mem_cons, List.mem_nil_iff, or_false] at hy
    rcases hy with rfl | rfl | rfl | rfl | rfl | rfl | rfl
    · exact ⟨pin_laid_unicode_utf8_first, by kernel_rfl⟩
    · cases _e
    · cases _e
    · cases _e
    · cases _e
    · cases _e
    · cases _e) fits1
end Go.Proofs.YtkjdlganghbgaaaGreatDoor
