/- The bytes of a number that is turned. -/
import Derived.Test.YtbbkpmbepljhkaaSRef01
set_option linter.all false
namespace Go.Proofs.Ytbbkpmbepljhkaa
open Go Go.Esc

theorem wrap_u64_range (v : Int) : 0 ≤ IntKind.wrap .u64 v ∧ IntKind.wrap .u64 v < 18446744073709551616 := by
  have hw : IntKind.wrap .u64 v = v % 18446744073709551616 := by
    simp only [IntKind.wrap, IntKind.bits, IntKind.signed, Bool.false_and]
    rfl
  rw [hw]
  exact ⟨Int.emod_nonneg _ (by omega), Int.emod_lt_of_pos _ (by omega)⟩

/-- Bytes of a number of any kind. -/
theorem bytes_conv {w : Nat} {v : Int} {h : Heap} (hw : w ≤ 8) : S_escheatref01_Bytes [.c (.i .i64 w), .c (.i .u64 (IntKind.wrap .u64 v))] h = some (.c (.sl h.length 0 w 1), h ++ [some ⟨encB (bytesI w v), true⟩]) := by
  rw [ref01_Bytes_eq hw (wrap_u64_range v).1 (wrap_u64_range v).2, bytesI_wrap hw]


end Go.Proofs.Ytbbkpmbepljhkaa
