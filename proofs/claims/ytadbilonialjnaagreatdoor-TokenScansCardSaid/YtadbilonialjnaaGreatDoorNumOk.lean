/- What the walks of the numbers' texts ask of the library's variables. -/
import Derived.Lib.AppendIntMem
import Derived.Lib.SmallJoins
import Derived.Test.YtadbilonialjnaaGreatDoorStr
import Derived.Test.YtadbilonialjnaaGreatDoorProg
namespace Go.Proofs.YtadbilonialjnaaGreatDoor
open Go.RowKit

/-- the library's table of powers and its two errors -/
structure NumOk (w : World) : Prop where
  tab : Lib.TabIs Tryz.prog w "internal/strconv.uint64pow10" .u64 Lib.pow10Tab
  es : ∃ tp p, w.var? Tryz.prog "strconv.ErrSyntax" = some #[.iface tp p]
  er : ∃ tp p, w.var? Tryz.prog "strconv.ErrRange" = some #[.iface tp p]
theorem var_on {w w' : World} {n : String} {cs : Array Value} (h : w.var? Tryz.prog n = some cs) (hb : Below w.heap.size w w') : w'.var? Tryz.prog n = some cs := by
  cases hg : Tryz.prog.globalNamed n with
  | none => unfold World.var? at h; rw [hg] at h; cases h
  | some g => exact Go.Joins.var_stays hg h hb (Nat.le_refl _)
theorem NumOk.below {w w' : World} (h : NumOk w) (hb : Below w.heap.size w w') : NumOk w' := by
  obtain ⟨t, ⟨a, b, hs⟩, ⟨c, d, hr⟩⟩ := h
  exact ⟨var_on t hb, ⟨a, b, var_on hs hb⟩, ⟨c, d, var_on hr hb⟩⟩
end Go.Proofs.YtadbilonialjnaaGreatDoor
