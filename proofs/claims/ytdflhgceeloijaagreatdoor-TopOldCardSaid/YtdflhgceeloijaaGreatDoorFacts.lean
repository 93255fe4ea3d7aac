/-
  Closed facts of the row of TopOld, each by itself: what the call reaches, reckoned by the kernel.
-/
import Derived.Test.YtdflhgceeloijaaGreatDoorRows
import Derived.JoinedOf
import Derived.KernelRfl
namespace Go.Proofs.YtdflhgceeloijaaGreatDoor.topOld
open Go
theorem c1 : (Rows.topOldRow.inPlace == Tryz.prog.inPlace 3) = true := by kernel_rfl
theorem c2 : (Rows.topOldRow.unfollowed == Tryz.prog.unfollowed 3) = true := by kernel_rfl
theorem c3 : (Rows.topOldRow.recurses == Tryz.prog.recurses 3) = true := by kernel_rfl
theorem c4 : (Rows.topOldRow.named == Tryz.prog.varsNamed 3) = true := by kernel_rfl
theorem joined : joinedFacts Tryz.prog 3 Tryz.f3 Rows.topOldSpec Rows.topOldRow = true := by
  unfold joinedFacts
  rw [c1, c2, c3, c4]
  kernel_rfl
end Go.Proofs.YtdflhgceeloijaaGreatDoor.topOld
