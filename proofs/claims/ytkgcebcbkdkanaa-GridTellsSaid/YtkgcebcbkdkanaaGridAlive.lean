/-
  The contract of sedimentlaw4.alive: true.
-/
import Derived.Test.YtkgcebcbkdkanaaGridStarts
namespace Go.Proofs.Ytkgcebcbkdkanaa
open Go.RowKit
set_option linter.unusedVariables false
set_option linter.unusedSimpArgs false

theorem own_cells {w : World} {B : Nat} {l : List Int} {v : Value} (h : OwnInts w B v l) (hn : l ≠ []) : ∃ g c, v = .slice (some ⟨g, 0, none⟩) l.length c ∧ B ≤ g ∧ g < w.heap.size ∧ ∀ j, j < l.length → w.cell? ⟨g, j, none⟩ = some (.int .i64 (l.getD j 0)) := by
  have hlt := h.lt
  rcases h.2 with ⟨rfl, h2⟩ | ⟨g, cap, cur, rfl, hb, hh, h3, h4, h5, h6⟩
  · exact absurd (List.eq_nil_of_length_eq_zero h2) hn
  · refine ⟨g, cap, rfl, hb, (hlt g rfl).2, fun j hj => ?_⟩
    have := h.cells (g := g) rfl j (.int .i64 (l.getD j 0)) (by simp [hj])
    rwa [show ((⟨g, 0, none⟩ : Addr).add j) = ⟨g, j, none⟩ from by unfold Addr.add; split <;> simp_all] at this


set_option maxRecDepth 100000 in
set_option maxHeartbeats 400000 in
theorem alive_any (w : World) : Calls Try.prog 9 #[] w (BoolPost w true) := by
  have e1 : gfloor (-1) 10 = -10 := by decide
  have e2 : gceil 11 10 = 20 := by decide
  have e3 : gback 57 20 10 = 30 := by decide
  have e4 : gon 10 5 = true := by decide
  have e5 : gon 0 0 = false := by decide
  have e6 : gstarts 5 31 10 9 = ([10, 20, 30], true) := by decide
  have E6 := Lib.hid e6; clear e6
  go_enter Try.func9, Try.ntmps9
  go_wp2_with fail
  refine (starts_any _ _ _ _ _ (by unfold I64; omega) (by unfold I64; omega) (by unfold I64; omega) (by unfold I64; omega) (by omega)).mono ?_
  rintro x w' ⟨v, rfl, hown, hb⟩
  rw [E6.out] at hown ⊢
  obtain ⟨g, c, rfl, hg1, hg2, hcell⟩ := own_cells hown (by simp)
  have hc0 := hcell 0 (by simp)
  clear hcell hown
  simp only [List.getD_cons_zero, List.length_cons, List.length_nil] at hc0 ⊢
  go_wp2_with (first | (go_at_call 10; refine (floor_any _ _ _ (by unfold I64; omega) (by unfold I64; omega)).mono ?_; rintro x w' ⟨rfl, rfl⟩) | (go_at_call 11; refine (ceil_any _ _ _ (by unfold I64; omega) (by unfold I64; omega)).mono ?_; rintro x w' ⟨rfl, rfl⟩) | (go_at_call 21; refine (back_any _ _ _ _ (by unfold I64; omega) (by unfold I64; omega) (by unfold I64; omega)).mono ?_; rintro x w' ⟨rfl, rfl⟩) | (go_at_call 12; refine (divides_any _ _ _ (by unfold I64; omega) (by unfold I64; omega)).mono ?_; rintro x w' ⟨rfl, rfl⟩))
  go_ret
  exact ⟨rfl, hb⟩

end Go.Proofs.Ytkgcebcbkdkanaa
