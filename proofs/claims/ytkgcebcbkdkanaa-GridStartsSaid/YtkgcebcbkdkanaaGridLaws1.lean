/-
  The walks of the laws GridDivides, GridNear, GridBack, GridShifts.
-/
import Derived.Test.YtkgcebcbkdkanaaGridAlive
namespace Go.Proofs.Ytkgcebcbkdkanaa
open Go.RowKit
set_option linter.unusedVariables false
set_option linter.unusedSimpArgs false

theorem I64_of_wf {a : Int} (h : (Lit.int .i64 a).wf = true) : -9223372036854775808 ≤ a ∧ a ≤ 9223372036854775807 := by
  simp [Lit.wf, IntKind.bits, IntKind.signed, IntKind.min, IntKind.max] at h; omega

theorem divides_trans (a b c : Int) (h1 : gon b a = true) (h2 : gon c b = true) : gon c a = true := by
  simp only [gon, decide_eq_true_eq] at *
  obtain ⟨ha, h1⟩ := h1
  obtain ⟨hb, h2⟩ := h2
  exact ⟨ha, Int.emod_eq_zero_of_dvd (Int.dvd_trans (Int.dvd_of_emod_eq_zero h1) (Int.dvd_of_emod_eq_zero h2))⟩

theorem gon_self (a : Int) : gon a a = decide (1 ≤ a) := by
  unfold gon; simp
theorem gon_zero (a : Int) : gon 0 a = decide (1 ≤ a) := by
  unfold gon; simp

set_option maxRecDepth 100000 in
set_option maxHeartbeats 400000 in
theorem walkGridDivides (a : Int) (wa : (Lit.int .i64 a).wf = true) (b : Int) (wb : (Lit.int .i64 b).wf = true) (c : Int) (wc : (Lit.int .i64 c).wf = true) (w : World) :
    Calls Try.prog 4 #[.int .i64 a, .int .i64 b, .int .i64 c] w (BoolPost w true) := by
  have ha := I64_of_wf wa
  have hb := I64_of_wf wb
  have hc := I64_of_wf wc
  have htr := divides_trans a b c
  have T := Lib.hid htr
  clear wa wb wc htr
  have e1 := gon_self a
  have e2 := gon_zero a
  go_enter Try.func4, Try.ntmps4
  go_wp2_with (first | (go_at_call 9; refine (alive_any _).mono ?_; rintro x w1 ⟨rfl, hb1⟩) | (go_at_call 12; refine (divides_any _ _ _ (by unfold I64; omega) (by unfold I64; omega)).mono ?_; rintro x w2 ⟨rfl, rfl⟩))
  all_goals go_ret
  all_goals first
    | exact ⟨ret_bool rfl, hb1⟩
    | exact absurd (T.out ‹_› ‹_›) ‹_›
    | exact ⟨ret_bool (by simp; omega), hb1⟩

/-- What GridNear says, in plain numbers. -/
theorem near_facts (t e : Int) (he : 1 ≤ e) (ht : -4611686018427387904 ≤ t) (ht' : t ≤ 4611686018427387904) (he' : e ≤ 2305843009213693952) :
    gfloor t e = t - t % e ∧ gceil t e = (if t % e = 0 then t else t - t % e + e) ∧ gon (gfloor t e) e = true ∧ gon (gceil t e) e = true ∧ gon t e = decide (t % e = 0) := by
  have ⟨f1, f2, f3⟩ := emod_facts t e he
  have h1 : gfloor t e = t - t % e := by unfold gfloor; rw [if_neg (by omega), if_pos (by omega)]
  have h2 : gceil t e = (if t % e = 0 then t else t - t % e + e) := by
    unfold gceil; rw [if_neg (by omega)]; split
    · rfl
    · rw [if_pos (by omega)]
  refine ⟨h1, h2, ?_, ?_, ?_⟩
  · rw [h1]; unfold gon; simp [he, Int.sub_emod]
  · rw [h2]; unfold gon; split
    · simp [he]; assumption
    · simp [he, Int.sub_emod, Int.add_emod]
  · unfold gon; simp [he]

set_option maxRecDepth 100000 in
set_option maxHeartbeats 400000 in
theorem walkGridNear (t : Int) (wt : (Lit.int .i64 t).wf = true) (e : Int) (we : (Lit.int .i64 e).wf = true) (w : World) :
    Calls Try.prog 6 #[.int .i64 t, .int .i64 e] w (BoolPost w true) := by
  have ht := I64_of_wf wt
  have he := I64_of_wf we
  clear wt we
  by_cases h : e < 1 ∨ t < -4611686018427387904 ∨ 4611686018427387904 < t ∨ 2305843009213693952 < e
  · by_cases h1 : e < 1
    · clear h
      go_enter Try.func6, Try.ntmps6
      go_wp2_with (go_at_call 9; refine (alive_any _).mono ?_; rintro x w1 ⟨rfl, hb1⟩)
      go_ret
      exact ⟨rfl, hb1⟩
    · by_cases h2 : t < -4611686018427387904
      · clear h
        go_enter Try.func6, Try.ntmps6
        go_wp2_with (go_at_call 9; refine (alive_any _).mono ?_; rintro x w1 ⟨rfl, hb1⟩)
        go_ret
        exact ⟨rfl, hb1⟩
      · by_cases h3 : 4611686018427387904 < t
        · clear h
          go_enter Try.func6, Try.ntmps6
          go_wp2_with (go_at_call 9; refine (alive_any _).mono ?_; rintro x w1 ⟨rfl, hb1⟩)
          go_ret
          exact ⟨rfl, hb1⟩
        · have h4 : 2305843009213693952 < e := by omega
          clear h
          go_enter Try.func6, Try.ntmps6
          go_wp2_with (go_at_call 9; refine (alive_any _).mono ?_; rintro x w1 ⟨rfl, hb1⟩)
          go_ret
          exact ⟨rfl, hb1⟩
  · obtain ⟨n1, n2, n3, n4, n5⟩ := near_facts t e (by omega) (by omega) (by omega) (by omega)
    have ⟨f1, f2, f3⟩ := emod_facts t e (by omega)
    have N1 := Lib.hid n1
    have N2 := Lib.hid n2
    have b1 : gfloor t e ≤ t := by omega
    have b2 : t - gfloor t e < e := by omega
    have b3 : t ≤ gceil t e := by rw [n2]; split <;> omega
    have b4 : gceil t e - t < e := by rw [n2]; split <;> omega
    have b5 : ((gfloor t e == gceil t e) == decide (t % e = 0)) = true := by rw [n1, n2, Bool.beq_eq_decide_eq, decide_eq_true_eq, Bool.eq_iff_iff]; simp; split <;> omega
    clear n1 n2 f3
    go_enter Try.func6, Try.ntmps6
    go_wp2_with (first | (go_at_call 9; refine (alive_any _).mono ?_; rintro x w1 ⟨rfl, hb1⟩) | (go_at_call 10; refine (floor_any _ _ _ (by unfold I64; omega) (by unfold I64; omega)).mono ?_; rintro x w2 ⟨rfl, rfl⟩) | (go_at_call 11; refine (ceil_any _ _ _ (by unfold I64; omega) (by unfold I64; omega)).mono ?_; rintro x w2 ⟨rfl, rfl⟩) | (go_at_call 19; refine (on_any _ _ _ (by unfold I64; omega) (by unfold I64; omega)).mono ?_; rintro x w2 ⟨rfl, rfl⟩))
    all_goals go_ret
    all_goals exact ⟨rfl, hb1⟩

theorem gfloor_neg (x e : Int) (he : 1 ≤ e) (hx : x < 0) : gfloor x e ≤ 0 := by
  have ⟨f1, f2, f3⟩ := emod_facts x e he
  have h1 : x / e < 0 := Int.ediv_neg_of_neg_of_pos hx (by omega)
  have h2 := Int.mul_ediv_add_emod x e
  have h3 : e * (x / e + 1) ≤ 0 := Int.mul_nonpos_of_nonneg_of_nonpos (by omega) (by omega)
  rw [Int.mul_add, Int.mul_one] at h3
  unfold gfloor; rw [if_neg (by omega)]; split <;> omega

theorem gback_eq (now keep e : Int) (hn : 0 ≤ now) (hk : 0 ≤ keep) (he : 1 ≤ e) : gback now keep e = if now < keep then 0 else (now - keep) - (now - keep) % e := by
  unfold gback; rw [if_neg (by omega)]
  split
  · have := gfloor_neg (now - keep) e he (by omega); omega
  · have ⟨f1, f2, f3⟩ := emod_facts (now - keep) e he
    have := f3 (by omega)
    unfold gfloor; rw [if_neg (by omega), if_pos (by omega)]; omega

theorem down_mono (x y e : Int) (he : 1 ≤ e) (h : x ≤ y) : x - x % e ≤ y - y % e := by
  have h1 := Int.mul_ediv_add_emod x e
  have h2 := Int.mul_ediv_add_emod y e
  have h3 : e * (x / e) ≤ e * (y / e) := Int.mul_le_mul_of_nonneg_left (Int.ediv_le_ediv (by omega) h) (by omega)
  omega

theorem down_on (x e : Int) (he : 1 ≤ e) : gon (x - x % e) e = true := by
  unfold gon; simp [he, Int.sub_emod]

theorem back_facts (now more keep e : Int) (hn : 0 ≤ now) (hm : 0 ≤ more) (he : 1 ≤ e) :
    0 ≤ gback now keep e ∧ gback now keep e ≤ gback (now + more) keep e ∧ gon (gback now keep e) e = true ∧ (0 ≤ keep → gback now keep e ≤ max (now - keep) 0) ∧ gback now keep e ≤ now := by
  by_cases hk : keep < 0
  · have h1 : ∀ x, gback x keep e = 0 := fun x => by unfold gback; rw [if_pos (by omega)]
    rw [h1, h1]
    exact ⟨by omega, by omega, by unfold gon; simp [he], by omega, hn⟩
  · have b1 := gback_eq now keep e hn (by omega) he
    have b2 := gback_eq (now + more) keep e (by omega) (by omega) he
    have ⟨f1, f2, f3⟩ := emod_facts (now - keep) e he
    have ⟨g1, g2, g3⟩ := emod_facts (now + more - keep) e he
    have h := down_mono (now - keep) (now + more - keep) e he (by omega)
    have ho := down_on (now - keep) e he
    rw [b1, b2]
    by_cases h1 : now < keep
    · rw [if_pos h1]
      refine ⟨by omega, ?_, by unfold gon; simp [he], by omega, hn⟩
      split
      · omega
      · have := g3 (by omega); omega
    · have := f3 (by omega)
      rw [if_neg h1, if_neg (by omega)]
      exact ⟨by omega, by omega, ho, by omega, by omega⟩

set_option maxRecDepth 100000 in
set_option maxHeartbeats 800000 in
theorem walkGridBack (now : Int) (w0 : (Lit.int .i64 now).wf = true) (more : Int) (w1 : (Lit.int .i64 more).wf = true) (keep : Int) (w2 : (Lit.int .i64 keep).wf = true) (e : Int) (w3 : (Lit.int .i64 e).wf = true) (w : World) :
    Calls Try.prog 7 #[.int .i64 now, .int .i64 more, .int .i64 keep, .int .i64 e] w (BoolPost w true) := by
  have h0 := I64_of_wf w0
  have h1 := I64_of_wf w1
  have h2 := I64_of_wf w2
  have h3 := I64_of_wf w3
  clear w0 w1 w2 w3
  by_cases h : now < 0 ∨ 2305843009213693952 < now ∨ more < 0 ∨ 2305843009213693952 < more ∨ e < 1
  · by_cases c0 : now < 0
    · clear h
      go_enter Try.func7, Try.ntmps7
      go_wp2_with (go_at_call 9; refine (alive_any _).mono ?_; rintro x w1 ⟨rfl, hb1⟩)
      go_ret
      exact ⟨rfl, hb1⟩
    · by_cases c1 : 2305843009213693952 < now
      · clear h
        go_enter Try.func7, Try.ntmps7
        go_wp2_with (go_at_call 9; refine (alive_any _).mono ?_; rintro x w1 ⟨rfl, hb1⟩)
        go_ret
        exact ⟨rfl, hb1⟩
      · by_cases c2 : more < 0
        · clear h
          go_enter Try.func7, Try.ntmps7
          go_wp2_with (go_at_call 9; refine (alive_any _).mono ?_; rintro x w1 ⟨rfl, hb1⟩)
          go_ret
          exact ⟨rfl, hb1⟩
        · by_cases c3 : 2305843009213693952 < more
          · clear h
            go_enter Try.func7, Try.ntmps7
            go_wp2_with (go_at_call 9; refine (alive_any _).mono ?_; rintro x w1 ⟨rfl, hb1⟩)
            go_ret
            exact ⟨rfl, hb1⟩
          · have c4 : e < 1 := by omega
            clear h
            go_enter Try.func7, Try.ntmps7
            go_wp2_with (go_at_call 9; refine (alive_any _).mono ?_; rintro x w1 ⟨rfl, hb1⟩)
            go_ret
            exact ⟨rfl, hb1⟩
  · obtain ⟨n1, n2, n3, n4, n5⟩ := back_facts now more keep e (by omega) (by omega) (by omega)
    by_cases hk : keep < 0
    · clear n4
      go_enter Try.func7, Try.ntmps7
      go_wp2_with (first | (go_at_call 9; refine (alive_any _).mono ?_; rintro x w1 ⟨rfl, hb1⟩) | (go_at_call 21; refine (back_any _ _ _ _ (by unfold I64; omega) (by unfold I64; omega) (by unfold I64; omega)).mono ?_; rintro x w2 ⟨rfl, rfl⟩) | (go_at_call 19; refine (on_any _ _ _ (by unfold I64; omega) (by unfold I64; omega)).mono ?_; rintro x w2 ⟨rfl, rfl⟩))
      all_goals go_ret
      all_goals exact ⟨rfl, hb1⟩
    · have n4 := n4 (by omega)
      have n6 : gback now keep e ≤ now - keep ∨ gback now keep e ≤ 0 := by omega
      go_enter Try.func7, Try.ntmps7
      go_wp2_with (first | (go_at_call 9; refine (alive_any _).mono ?_; rintro x w1 ⟨rfl, hb1⟩) | (go_at_call 21; refine (back_any _ _ _ _ (by unfold I64; omega) (by unfold I64; omega) (by unfold I64; omega)).mono ?_; rintro x w2 ⟨rfl, rfl⟩) | (go_at_call 19; refine (on_any _ _ _ (by unfold I64; omega) (by unfold I64; omega)).mono ?_; rintro x w2 ⟨rfl, rfl⟩))
      all_goals go_ret
      all_goals exact ⟨ret_bool (by simp; omega), hb1⟩

theorem shift_facts (t e k : Int) (he : 1 ≤ e) (he' : e ≤ 1048576) (hk : 1 ≤ k) (hk' : k ≤ 1048576) (ht : -1125899906842624 ≤ t) (ht' : t ≤ 1125899906842624) :
    1 ≤ e * k ∧ e * k ≤ 1099511627776 ∧ gfloor (t + e) e = gfloor t e + e ∧ gfloor (gfloor t e) (e * k) = gfloor t (e * k) ∧ gceil (-t) e = -gfloor t e ∧ -1125899907891200 ≤ gfloor t e ∧ gfloor t e ≤ t := by
  have p1 : e * 1 ≤ e * k := Int.mul_le_mul_of_nonneg_left hk (by omega)
  have p2 : e * k ≤ e * 1048576 := Int.mul_le_mul_of_nonneg_left hk' (by omega)
  have fl : ∀ x q : Int, 1 ≤ q → q ≤ 1099511627776 → -4503599627370496 ≤ x → gfloor x q = x - x % q := by
    intro x q hq hq' hx
    have ⟨f1, f2, f3⟩ := emod_facts x q hq
    unfold gfloor; rw [if_neg (by omega), if_pos (by omega)]
  have ⟨f1, f2, f3⟩ := emod_facts t e he
  have ⟨m1, m2, m3⟩ := emod_facts t (e * k) (by omega)
  have ft := fl t e he (by omega) (by omega)
  refine ⟨by omega, by omega, ?_, ?_, ?_, by omega, by omega⟩
  · rw [fl _ e he (by omega) (by omega), ft, Int.add_emod_right]; omega
  · have fk := fl t (e * k) (by omega) (by omega) (by omega)
    rw [ft, fl _ (e * k) (by omega) (by omega) (by omega), fk]
    have h1 : t % (e * k) % e = t % e := Int.emod_emod_of_dvd t (Int.dvd_mul_right e k)
    have ⟨g1, g2, g3⟩ := emod_facts (t % (e * k)) e he
    have g4 := g3 m1
    have h2 : (t - t % e) % (e * k) = t % (e * k) - t % e := by
      have h3 := Int.mul_ediv_add_emod t (e * k)
      have h4 : t - t % e = (t % (e * k) - t % e) + (e * k) * (t / (e * k)) := by omega
      rw [h4, Int.add_mul_emod_self_left]
      exact Int.emod_eq_of_lt (by omega) (by omega)
    rw [h2]; omega
  · have h1 : (-t) % e = if t % e = 0 then 0 else e - t % e := by
      have h3 := Int.mul_ediv_add_emod t e
      split
      · have h4 : -t = e * (-(t / e)) := by rw [Int.mul_neg]; omega
        rw [h4, Int.mul_emod_right]
      · have h4 : -t = (e - t % e) + e * (-(t / e) - 1) := by rw [Int.mul_sub, Int.mul_neg]; omega
        rw [h4, Int.add_mul_emod_self_left]
        exact Int.emod_eq_of_lt (by omega) (by omega)
    unfold gceil; rw [if_neg (by omega), ft]
    split at h1
    · rw [if_pos h1]; omega
    · rw [if_neg (by omega), if_pos (by omega)]; omega

set_option maxRecDepth 100000 in
set_option maxHeartbeats 800000 in
theorem walkGridShifts (t : Int) (w0 : (Lit.int .i64 t).wf = true) (e : Int) (w1 : (Lit.int .i64 e).wf = true) (k : Int) (w2 : (Lit.int .i64 k).wf = true) (w : World) :
    Calls Try.prog 3 #[.int .i64 t, .int .i64 e, .int .i64 k] w (BoolPost w true) := by
  have h0 := I64_of_wf w0
  have h1 := I64_of_wf w1
  have h2 := I64_of_wf w2
  clear w0 w1 w2
  by_cases h : e < 1 ∨ 1048576 < e ∨ k < 1 ∨ 1048576 < k ∨ t < -1125899906842624 ∨ 1125899906842624 < t
  · by_cases c0 : e < 1
    · clear h
      go_enter Try.func3, Try.ntmps3
      go_wp2_with (go_at_call 9; refine (alive_any _).mono ?_; rintro x w1 ⟨rfl, hb1⟩)
      go_ret
      exact ⟨rfl, hb1⟩
    · by_cases c1 : 1048576 < e
      · clear h
        go_enter Try.func3, Try.ntmps3
        go_wp2_with (go_at_call 9; refine (alive_any _).mono ?_; rintro x w1 ⟨rfl, hb1⟩)
        go_ret
        exact ⟨rfl, hb1⟩
      · by_cases c2 : k < 1
        · clear h
          go_enter Try.func3, Try.ntmps3
          go_wp2_with (go_at_call 9; refine (alive_any _).mono ?_; rintro x w1 ⟨rfl, hb1⟩)
          go_ret
          exact ⟨rfl, hb1⟩
        · by_cases c3 : 1048576 < k
          · clear h
            go_enter Try.func3, Try.ntmps3
            go_wp2_with (go_at_call 9; refine (alive_any _).mono ?_; rintro x w1 ⟨rfl, hb1⟩)
            go_ret
            exact ⟨rfl, hb1⟩
          · by_cases c4 : t < -1125899906842624
            · clear h
              go_enter Try.func3, Try.ntmps3
              go_wp2_with (go_at_call 9; refine (alive_any _).mono ?_; rintro x w1 ⟨rfl, hb1⟩)
              go_ret
              exact ⟨rfl, hb1⟩
            · have c5 : 1125899906842624 < t := by omega
              clear h
              go_enter Try.func3, Try.ntmps3
              go_wp2_with (go_at_call 9; refine (alive_any _).mono ?_; rintro x w1 ⟨rfl, hb1⟩)
              go_ret
              exact ⟨rfl, hb1⟩
  · obtain ⟨n1, n2, n3, n4, n5, n6, n7⟩ := shift_facts t e k (by omega) (by omega) (by omega) (by omega) (by omega) (by omega)
    have N3 : (gfloor (t + e) e == gfloor t e + e) = true := by rw [n3]; simp
    have N4 : (gfloor (gfloor t e) (e * k) == gfloor t (e * k)) = true := by rw [n4]; simp
    have N5 : (gceil (-t) e == -gfloor t e) = true := by rw [n5]; simp
    clear n3 n4 n5
    go_enter Try.func3, Try.ntmps3
    go_wp2_with (first | (go_at_call 9; refine (alive_any _).mono ?_; rintro x w1 ⟨rfl, hb1⟩) | (go_at_call 10; refine (floor_any _ _ _ (by unfold I64; omega) (by unfold I64; omega)).mono ?_; rintro x w2 ⟨rfl, rfl⟩) | (go_at_call 11; refine (ceil_any _ _ _ (by unfold I64; omega) (by unfold I64; omega)).mono ?_; rintro x w2 ⟨rfl, rfl⟩))
    all_goals go_ret
    all_goals exact ⟨rfl, hb1⟩

end Go.Proofs.Ytkgcebcbkdkanaa
