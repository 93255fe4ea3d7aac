/-
  An argument opened: a slice of texts.
-/
import Derived.Test.YtjcggkfinhkcoaaGreatOpen
import Derived.Test.YtjcggkfinhkcoaaGreatTexts
import Derived.Deep.Strs
namespace Go.Proofs.YtjcggkfinhkcoaaGreat
open Go.RowKit Go.ChangeShapes Go.WideShapes Go.ChangeAt Go.Deep Go.Joins
set_option linter.unusedVariables false
set_option linter.unusedSimpArgs false

section
variable {H : Type} {enc : TypeId × Value → H} {W : World} {v : Value} {d : DataW H} {p : List MemPlace} {r : Reach} {b0 : Nat}
set_option maxRecDepth 100000 in
theorem texts_trod {n : Nat} {a : Option Addr} {len cap : Nat} {y : DataW H × List MemPlace} (hf : DataW.trod enc Tryz.prog W 0 (fun _ => true) true n 32 [.slice a len cap] = some y) : ∃ l, TextsAt W (.slice a len cap) l := by
  rcases open_strs Tryz.underlying32 Tryz.underlying9 (by kernel_rfl) hf with ⟨hcs, _⟩ | ⟨x, l, c, m, Sx, hcs, _, hl, hm, hmm, _, hx⟩
  · simp at hcs
    obtain ⟨rfl, rfl, rfl⟩ := hcs
    exact ⟨[], texts_nil W⟩
  · simp at hcs
    obtain ⟨rfl, rfl, rfl⟩ := hcs
    have hmc : m = cap := by simpa using hmm
    subst hmc
    have hm' : m ≤ 9223372036854775807 := by unfold maxLen at hm; omega
    have hlen : ((List.range len).map Sx).length = len := by simp
    refine ⟨(List.range len).map Sx, some x, m, by rw [hlen], fun s hs => ?_, ⟨by omega, hm'⟩, fun hne => ?_⟩
    · simp only [List.mem_map, List.mem_range] at hs
      obtain ⟨i, hi, rfl⟩ := hs
      have := (hx i (by omega)).2
      unfold maxLen at this; omega
    · obtain ⟨b, o, s⟩ := x
      have h0 := (hx 0 (by cases len with | zero => simp at hne | succ n => omega)).1
      have hs : s = none := by simpa [Addr.add] using World.cell?_spot h0
      subst hs
      refine ⟨b, o, rfl, World.block_lt_of_cell? W _ h0, fun j hj => ?_⟩
      have := (hx j (by omega)).1
      rw [add_at] at this
      rw [this]
      simp [show j < len by omega]
set_option maxRecDepth 100000 in
theorem strs_open (hv : Value.okWide Tryz.prog W r b0 32 v) (h : DataW.Trod enc Tryz.prog W 0 (fun _ => true) true 32 v d p) : ∃ l, TextsAt W v l := by
  obtain ⟨a, len, cap, rfl⟩ := okWide_slice Tryz.underlying32 hv
  obtain ⟨fuel, hf⟩ := h
  exact texts_trod hf
end
end Go.Proofs.YtjcggkfinhkcoaaGreat
