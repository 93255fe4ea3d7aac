/-
  The contract of strings.Clone.
-/
import Derived.Test.YtabkeggcaacldaaKit
import Derived.Test.YtabkeggcaacldaaShelf
namespace Go.Proofs.Ytabkeggcaacldaa
open Go.RowKit
set_option linter.unusedVariables false
set_option linter.unusedSimpArgs false

theorem clone_any (s : ByteArray) (w : World) (hs : s.size ≤ 281474976710656) : Calls Try.prog 43 #[.string s] w (RetB w (.string s)) := by
  go_enter Try.func43, Try.ntmps43
  go_wp2_with fail
  refine (Try.stringslite_Clone s w hs).mono ?_
  rintro e w1 ⟨rfl, hb⟩
  go_wp2
  go_ret
  exact ⟨rfl, hb⟩
end Go.Proofs.Ytabkeggcaacldaa
