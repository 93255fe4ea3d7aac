/-
  The contract of strings.Clone.
-/
import Derived.Test.YtjcggkfinhkcoaaGreatKit
import Derived.Test.YtjcggkfinhkcoaaGreatShelf
namespace Go.Proofs.YtjcggkfinhkcoaaGreat
open Go.RowKit
set_option linter.unusedVariables false
set_option linter.unusedSimpArgs false

theorem clone_any (s : ByteArray) (w : World) (hs : s.size ≤ 281474976710656) : Calls Tryz.prog 88 #[.string s] w (RetB w (.string s)) := by
  go_enter Tryz.func88, Tryz.ntmps88
  go_wp2_with fail
  refine (Tryz.stringslite_Clone s w hs).mono ?_
  rintro e w1 ⟨rfl, hb⟩
  go_wp2
  go_ret
  exact ⟨rfl, hb⟩
end Go.Proofs.YtjcggkfinhkcoaaGreat
