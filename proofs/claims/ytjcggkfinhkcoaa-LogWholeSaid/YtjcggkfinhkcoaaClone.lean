/-
  The contract of strings.Clone.
-/
import Derived.Test.YtjcggkfinhkcoaaKit
import Derived.Test.YtjcggkfinhkcoaaShelf
namespace Go.Proofs.Ytjcggkfinhkcoaa
open Go.RowKit
set_option linter.unusedVariables false
set_option linter.unusedSimpArgs false

theorem clone_any (s : ByteArray) (w : World) (hs : s.size ≤ 281474976710656) : Calls Try.prog 53 #[.string s] w (RetB w (.string s)) := by
  go_enter Try.func53, Try.ntmps53
  go_wp2_with fail
  refine (Try.stringslite_Clone s w hs).mono ?_
  rintro e w1 ⟨rfl, hb⟩
  go_wp2
  go_ret
  exact ⟨rfl, hb⟩
end Go.Proofs.Ytjcggkfinhkcoaa
