/-
  The contracts of grid.Floor and grid.Back.
-/
import Derived.Test.YtaenpcglaenlaaaGridPlain
import Derived.Test.YtaenpcglaenlaaaKit
namespace Go.Proofs.Ytaenpcglaenlaaa
open Go.RowKit
set_option linter.unusedVariables false
set_option linter.unusedSimpArgs false

def I64 (t : Int) : Prop := -9223372036854775808 ≤ t ∧ t ≤ 9223372036854775807

set_option maxHeartbeats 400000 in
theorem floor_any (t e : Int) (w : World) (ht : I64 t) (he : I64 e) :
    Calls Try.prog 36 #[.int .i64 t, .int .i64 e] w fun x w' => x = .returned (.int .i64 (gfloor t e)) ∧ w = w' := by
  unfold I64 at ht he
  by_cases h : e < 1
  · go_enter Try.func36, Try.ntmps36
    go_wp2
    go_ret
    exact ⟨ret_int (by unfold gfloor; rw [if_pos h]), rfl⟩
  · have hb := tmod_bound t e (by omega)
    have hm := tmod_eq t e (by omega)
    have hf := emod_facts t e (by omega)
    obtain ⟨b1, b2, b3, b4⟩ := hb
    obtain ⟨f1, f2, f3⟩ := hf
    have B : -9223372036854775808 ≤ t - t.tmod e ∧ t - t.tmod e ≤ 9223372036854775807 := by
      by_cases h0 : 0 ≤ t
      · have := b3 h0; omega
      · have := b4 (by omega); omega
    have HM := Lib.hid hm
    clear hm b3 b4 f3
    go_enter Try.func36, Try.ntmps36
    go_wp2
    all_goals go_ret
    all_goals
      refine ⟨ret_int ?_, rfl⟩
      have hm := HM.out
      unfold gfloor
      rw [if_neg (by omega)]
      split at hm <;> split <;> omega

set_option maxHeartbeats 400000 in
theorem back_any (t k e : Int) (w : World) (ht : I64 t) (hk : I64 k) (he : I64 e) :
    Calls Try.prog 37 #[.int .i64 t, .int .i64 k, .int .i64 e] w fun x w' => x = .returned (.int .i64 (gback t k e)) ∧ w = w' := by
  have he' := he
  unfold I64 at ht hk he
  by_cases h : t < 0 ∨ k < 0 ∨ e < 1
  · have H : Hid (gback t k e = 0) := Lib.hid (by unfold gback; rw [if_pos h])
    by_cases h1 : t < 0
    · go_enter Try.func37, Try.ntmps37
      go_wp2
      go_ret
      exact ⟨ret_int H.out.symm, rfl⟩
    · by_cases h2 : k < 0
      · go_enter Try.func37, Try.ntmps37
        go_wp2
        go_ret
        exact ⟨ret_int H.out.symm, rfl⟩
      · have h3 : e < 1 := by omega
        go_enter Try.func37, Try.ntmps37
        go_wp2
        go_ret
        exact ⟨ret_int H.out.symm, rfl⟩
  · go_enter Try.func37, Try.ntmps37
    go_wp2_with (go_at_call 36; refine (floor_any _ _ _ (by unfold I64; omega) he').mono ?_; rintro x w' ⟨rfl, rfl⟩)
    all_goals go_ret
    all_goals exact ⟨ret_int (by unfold gback; rw [if_neg (by omega)]; omega), rfl⟩

end Go.Proofs.Ytaenpcglaenlaaa
