/-
  The walk of the law SuperApart.
-/
import Derived.Test.YtabkeggcaacldaaSuper7
namespace Go.Proofs.Ytabkeggcaacldaa
open Go.RowKit
set_option linter.unusedVariables false
set_option linter.unusedSimpArgs false

set_option maxRecDepth 100000 in
set_option maxHeartbeats 4000000 in
theorem walkSuperApart (n : Int) (wn : (Lit.int .i64 n).wf = true) (w : World) : Calls Try.prog 5 #[.int .i64 n] w (BoolPost w true) := by
  have hI : I64 n := wf64' wn
  by_cases hp : planOk n
  · obtain ⟨c, hc⟩ : ∃ c, c = n / 200 + 10 := ⟨_, rfl⟩
    obtain ⟨r, hr⟩ : ∃ r, r = (n - (18 + 2 * c)) / 2 := ⟨_, rfl⟩
    have HL := Lib.hid (show layV n = .agg #[.int .i64 n, .int .i64 2, .int .i64 18, .int .i64 (18 + c), .int .i64 c, .int .i64 (18 + 2 * c), .int .i64 r] by unfold layV; rw [hr, hc])
    have HP := Lib.hid hp
    obtain ⟨p1, p2⟩ := hp
    have q1 : 10 ≤ c ∧ c ≤ 30 := by omega
    have q2 : 13 ≤ r ∧ r ≤ 2020 := by omega
    have q3 : 2 * r ≤ n - (18 + 2 * c) := by omega
    have q4 : 2 * r + 2000 ≤ c * 256 := by omega
    have q5 : 18 + 2 * c < n := by omega
    have q6 : 18 + c + c ≤ 18 + 2 * c := by omega
    clear hc hr hI wn
    go_enter Try.func5, Try.ntmps5
    go_wp2_with fail
    refine (plan_yes n _ HP.out).mono ?_
    rintro e w1 ⟨rfl, hb1⟩
    rw [HL.out]
    have HB1 := Lib.hid hb1
    have HX1 := Lib.hid (heap_alloc_new w1 (.cells #[.int .i64 n, .int .i64 2, .int .i64 18, .int .i64 (18 + c), .int .i64 c, .int .i64 (18 + 2 * c), .int .i64 r] 27))
    have HA1 := Lib.hid (chain HB1.out (bel_new w1 (.cells #[.int .i64 n, .int .i64 2, .int .i64 18, .int .i64 (18 + c), .int .i64 c, .int .i64 (18 + 2 * c), .int .i64 r] 27)))
    clear hb1
    go_wp2_with fail
    refine (alive_any _).mono ?_
    rintro e w2 ⟨rfl, hb2⟩
    obtain ⟨c0, c1, c2, c3, c4, c5, c6⟩ := row7 (heap_step HX1.out hb2)
    have HB2 := Lib.hid (chain HA1.out hb2)
    clear hb2
    go_wp2
    go_ret
    exact ⟨rfl, HB2.out⟩
  · have HP := Lib.hid hp
    have HI := Lib.hid hI
    have hd : n < 64 ∨ (¬ n < 64 ∧ 4096 < n) := by unfold planOk at hp; omega
    clear hp wn hI
    go_enter Try.func5, Try.ntmps5
    go_wp2_with fail
    refine (plan_no n _ HI.out HP.out).mono ?_
    rintro e w1 ⟨rfl, hb1⟩
    simp only [lay0]
    have HB1 := Lib.hid hb1
    clear hb1
    go_wp2_with fail
    refine (alive_any _).mono ?_
    rintro e w2 ⟨rfl, hb2⟩
    have HB2 := Lib.hid (chain (chain HB1.out (bel_new w1 _)) hb2)
    clear hb2
    rcases hd with h | ⟨h, h'⟩
    · go_wp2
      go_ret
      exact ⟨rfl, HB2.out⟩
    · go_wp2
      go_ret
      exact ⟨rfl, HB2.out⟩
end Go.Proofs.Ytabkeggcaacldaa
