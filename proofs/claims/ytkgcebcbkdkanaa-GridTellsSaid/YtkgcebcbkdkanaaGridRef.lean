/-
  The document's grid functions: each gives what the plain functions of GridPlain say.
-/
import Derived.Test.YtkgcebcbkdkanaaGridStarts
namespace Go.Proofs.Ytkgcebcbkdkanaa
open Go.RowKit
set_option linter.unusedVariables false
set_option linter.unusedSimpArgs false

set_option maxHeartbeats 400000 in
theorem rfloor_any (t e : Int) (w : World) (ht : I64 t) (he : I64 e) :
    Calls Try.prog 17 #[.int .i64 t, .int .i64 e] w fun x w' => x = .returned (.int .i64 (gfloor t e)) ∧ w = w' := by
  unfold I64 at ht he
  by_cases h : e < 1
  · go_enter Try.func17, Try.ntmps17
    go_wp2
    go_ret
    exact ⟨ret_int (by unfold gfloor; rw [if_pos h]), rfl⟩
  · have hb := tmod_bound t e (by omega)
    have hm := tmod_eq t e (by omega)
    have hf := emod_facts t e (by omega)
    obtain ⟨b1, b2, b3, b4⟩ := hb
    obtain ⟨f1, f2, f3⟩ := hf
    have B : -9223372036854775808 ≤ t - t.tmod e ∧ t - t.tmod e ≤ 9223372036854775807 := by
      by_cases h0 : 0 ≤ t
      · have := b3 h0; omega
      · have := b4 (by omega); omega
    obtain ⟨r, hr⟩ : ∃ r, r = t % e := ⟨_, rfl⟩
    have HR := Lib.hid hr
    rw [← hr] at hm f1 f2 f3
    have hmr : t.tmod e = r ∨ t.tmod e = r - e := by split at hm <;> omega
    have HM := Lib.hid hm
    clear hm hr f3
    go_enter Try.func17, Try.ntmps17
    go_wp2
    all_goals go_ret
    all_goals
      refine ⟨ret_int ?_, rfl⟩
      have hm := HM.out
      unfold gfloor
      rw [← HR.out, if_neg (by omega)]
      split at hm <;> split <;> ((try unfold RowKit.wrap64); omega)

set_option maxHeartbeats 400000 in
theorem rceil_any (t e : Int) (w : World) (ht : I64 t) (he : I64 e) :
    Calls Try.prog 18 #[.int .i64 t, .int .i64 e] w fun x w' => x = .returned (.int .i64 (gceil t e)) ∧ w = w' := by
  unfold I64 at ht he
  by_cases h : e < 1
  · go_enter Try.func18, Try.ntmps18
    go_wp2
    go_ret
    exact ⟨ret_int (by unfold gceil; rw [if_pos h]), rfl⟩
  · have hb := tmod_bound t e (by omega)
    have hm := tmod_eq t e (by omega)
    have hf := emod_facts t e (by omega)
    obtain ⟨b1, b2, b3, b4⟩ := hb
    obtain ⟨f1, f2, f3⟩ := hf
    have B : -9223372036854775808 ≤ t - t.tmod e ∧ t - t.tmod e ≤ 9223372036854775807 := by
      by_cases h0 : 0 ≤ t
      · have := b3 h0; omega
      · have := b4 (by omega); omega
    obtain ⟨r, hr⟩ : ∃ r, r = t % e := ⟨_, rfl⟩
    have HR := Lib.hid hr
    rw [← hr] at hm f1 f2 f3
    have hmr : t.tmod e = r ∨ t.tmod e = r - e := by split at hm <;> omega
    have HM := Lib.hid hm
    clear hm hr f3
    have hq2 : (t.tmod e + e == 0) = false := by simp; omega
    by_cases h0 : t.tmod e = 0
    · have hq : (t.tmod e == 0) = true := by simpa using h0
      go_enter Try.func18, Try.ntmps18
      go_wp2
      all_goals go_ret
      all_goals
        refine ⟨ret_int ?_, rfl⟩
        have hm := HM.out
        unfold gceil
        rw [← HR.out, if_neg (by omega)]
        split at hm <;> (repeat' split) <;> (first | omega | ((try simp only [← HR.out] at *) <;> (try unfold RowKit.wrap64 at *) <;> omega))
    · have hq : (t.tmod e == 0) = false := by simpa using h0
      go_enter Try.func18, Try.ntmps18
      go_wp2
      all_goals go_ret
      all_goals
        refine ⟨ret_int ?_, rfl⟩
        have hm := HM.out
        unfold gceil
        rw [← HR.out, if_neg (by omega)]
        split at hm <;> (repeat' split) <;> (first | omega | ((try simp only [← HR.out] at *) <;> (try unfold RowKit.wrap64 at *) <;> omega))

set_option maxHeartbeats 400000 in
theorem ron_any (t e : Int) (w : World) (_ht : I64 t) (he : I64 e) :
    Calls Try.prog 20 #[.int .i64 t, .int .i64 e] w fun x w' => x = .returned (.bool (gon t e)) ∧ w = w' := by
  unfold I64 at he
  by_cases h : e < 1
  · go_enter Try.func20, Try.ntmps20
    go_wp2
    go_ret
    exact ⟨ret_bool (by unfold gon; simp; omega), rfl⟩
  · have hm := tmod_eq t e (by omega)
    have hf := emod_facts t e (by omega)
    obtain ⟨f1, f2, f3⟩ := hf
    have HM := Lib.hid hm
    clear hm f3
    go_enter Try.func20, Try.ntmps20
    go_wp2
    all_goals go_ret
    all_goals
      refine ⟨ret_bool ?_, rfl⟩
      have hm := HM.out
      unfold gon
      rw [hm, Bool.eq_iff_iff]
      simp
      split <;> omega

theorem gback_zero {t k e : Int} (h : t < k) (ht : 0 ≤ t) (he : 1 ≤ e) : max (gfloor (t - k) e) 0 = 0 := by
  have ⟨f1, f2, _⟩ := emod_facts (t - k) e he
  unfold gfloor
  rw [if_neg (by omega)]
  have hd := Int.mul_ediv_add_emod (t - k) e
  have hq : (t - k) / e ≤ -1 := by
    have := Int.ediv_lt_of_lt_mul (a := t - k) (b := 0) (c := e) (by omega) (by omega)
    omega
  have hq2 : e * ((t - k) / e) ≤ e * (-1) := Int.mul_le_mul_of_nonneg_left hq (by omega)
  rw [Int.mul_neg, Int.mul_one] at hq2
  split <;> omega
set_option maxHeartbeats 400000 in
theorem rback_any (t k e : Int) (w : World) (ht : I64 t) (hk : I64 k) (he : I64 e) :
    Calls Try.prog 22 #[.int .i64 t, .int .i64 k, .int .i64 e] w fun x w' => x = .returned (.int .i64 (gback t k e)) ∧ w = w' := by
  have he' := he
  unfold I64 at ht hk he
  by_cases h : t < 0 ∨ k < 0 ∨ e < 1 ∨ t < k
  · have H : Hid (gback t k e = 0) := Lib.hid (by
      unfold gback
      split
      · rfl
      · exact gback_zero (by omega) (by omega) (by omega))
    by_cases h1 : t < 0
    · go_enter Try.func22, Try.ntmps22
      go_wp2
      go_ret
      exact ⟨ret_int H.out.symm, rfl⟩
    · by_cases h2 : k < 0
      · go_enter Try.func22, Try.ntmps22
        go_wp2
        go_ret
        exact ⟨ret_int H.out.symm, rfl⟩
      · by_cases h3 : e < 1
        · go_enter Try.func22, Try.ntmps22
          go_wp2
          go_ret
          exact ⟨ret_int H.out.symm, rfl⟩
        · have h4 : t < k := by omega
          go_enter Try.func22, Try.ntmps22
          go_wp2
          go_ret
          exact ⟨ret_int H.out.symm, rfl⟩
  · have hf := emod_facts (t - k) e (by omega)
    have H : Hid (gback t k e = gfloor (t - k) e) := Lib.hid (by
      unfold gback
      rw [if_neg (by omega)]
      have : 0 ≤ gfloor (t - k) e := by
        unfold gfloor
        rw [if_neg (by omega)]
        have := hf.2.2 (by omega)
        split <;> omega
      omega)
    clear hf
    go_enter Try.func22, Try.ntmps22
    go_wp2_with (go_at_call 17; refine (rfloor_any _ _ _ (by unfold I64; omega) he').mono ?_; rintro x w' ⟨rfl, rfl⟩)
    all_goals go_ret
    all_goals exact ⟨ret_int H.out.symm, rfl⟩

set_option maxRecDepth 100000 in
set_option maxHeartbeats 800000 in
theorem rstarts_loop (f t e most : Int) (w : World) (hf : I64 f) (ht : I64 t) (he : I64 e) (hm : most ≤ 1000000) (he1 : 1 ≤ e) (hm0 : 0 ≤ most) :
    Calls Try.prog 14 #[.int .i64 f, .int .i64 t, .int .i64 e, .int .i64 most] w (StartsPost w (gstarts f t e most)) := by
  have hf' := hf; have he' := he
  unfold I64 at hf ht he
  obtain ⟨i0, hi, hz0, hz1, hz2⟩ := info_parts Try.info3
  obtain ⟨c, hc⟩ : ∃ c, c = gceil f e := ⟨_, rfl⟩
  have hcI := gceil_I64 f e hf he.2
  rw [← hc] at hcI
  obtain ⟨N, hN⟩ : ∃ N, N = gcount c f t e := ⟨_, rfl⟩
  have HN := Lib.hid hN
  have HC := Lib.hid hc
  have R : Hid (gstarts f t e most = if (N : Int) ≤ most then (GL c e N, true) else ([], false)) := Lib.hid (by
    unfold gstarts; rw [if_neg (by omega), ← hc, ← hN]; rfl)
  clear hN hc
  go_enter Try.func14, Try.ntmps14
  go_wp2_with (go_at_call 18; refine (rceil_any _ _ _ hf' he').mono ?_; rintro x w' ⟨rfl, rfl⟩)
  rw [← HC.out]
  go_loopw [10, 11] (fun v at_ wr => ∃ (k : Nat) (a : Int) (ao : Option Addr) (ca : Nat), (k : Int) ≤ most ∧ k ≤ N ∧ at_ = .int .i64 a ∧ Hid (a = c + k * e) ∧ v = .slice ao k ca ∧ wr.ownsRow w.heap.size 3 1 (.slice ao k ca) k ((GL c e k).map (Value.int .i64)) ∧ Below w.heap.size w wr ∧ I64 a) (fun v _ _ => N - slen v)
  case atStart => exact ⟨0, c, none, 0, by omega, Nat.zero_le _, rfl, Lib.hid (by simp), rfl, World.ownsRow_nil _ _ _ _, Below.refl _ _, hcI⟩
  case round =>
    obtain ⟨k, a, ao, ca, hk, hkN, rfl, Ha, rfl, hown, hnx, haI⟩ := hrel
    have hlt := gcount_lt c f t e k he1 (by rw [← HN.out]; exact hkN)
    rw [← HN.out, ← Ha.out] at hlt
    unfold I64 at haI
    by_cases hl : k < N
    · have ⟨h1, h2⟩ := hlt.1 hl
      clear hlt
      by_cases hkm : (k : Int) = most
      · have h3 : most ≤ (k : Int) := by omega
        have h4 : ¬ (k : Int) < most := by omega
        have H3 := Lib.hid hkm
        clear hkm
        go_wp2
        go_ret2
        rw [R.out, if_neg (by have := H3.out; omega)]
        exact ⟨_, rfl, World.ownsRow_nil _ _ _ _, hnx⟩
      · have h3' : (k : Int) < most := by omega
        have h4 : ¬ most ≤ (k : Int) := by omega
        clear hkm
        go_wp2_with (at_builtin; refine wpList_append_own _ rfl _ _ 37 rfl w.heap.size 3 i0 (.int .i64 0) 1 8 Try.underlying37 hi hz0 hz1 hz2 rfl (by decide) _ _ _ rfl (hown.alloc _) ⟨wr.heap.size, 0, none⟩ 1 1 [.int .i64 a] rfl rfl (cell_one_new _ _ _) ?c2 ?c3 ?c4 ?c5 ?_)
        case c2 => first | rfl | (intro u hu; simp at hu; subst hu; rfl)
        case c3 => unfold maxLen; omega
        case c4 => omega
        case c5 => have := hnx.size; simp; omega
        intro v' w1 hown' hgrow _
        have hnx' : Below w.heap.size w w1 := (hnx.alloc hnx.size _).grown hgrow (by simp; have := hnx.size; omega) (fun j hj => (hown.lt j hj).1)
        have hown1 := own_snoc (GL_len c e k) hown'
        rw [show GL c e k ++ [a] = GL c e (k + 1) from by rw [Ha.out]; exact (gst_snoc c e k).symm] at hown1
        obtain ⟨ao', ca', rfl, hown2⟩ := own_rowI hown1 (GL_len c e (k + 1))
        clear hown' hgrow hown hnx hown1
        have hlt2 := gcount_lt c f t e (k + 1) he1 (by rw [← HN.out]; omega)
        have hea : c + ((k + 1 : Nat) : Int) * e = a + e := by rw [Ha.out]; push_cast; rw [Int.add_mul]; omega
        rw [← HN.out, hea] at hlt2
        by_cases hb : 9223372036854775807 - e < a
        · have hN1 : Hid (N = k + 1) := Lib.hid (by omega)
          clear hlt2 hea
          go_wp2
          go_ret2
          rw [R.out, if_pos (by have := hN1.out; omega), hN1.out]
          exact ⟨_, rfl, by unfold OwnInts; rw [GL_len]; exact hown2, hnx'⟩
        · have HEA := Lib.hid hea
          clear hlt2 hea
          go_wp2
          go_roundw
          case rel => exact ⟨k + 1, a + e, ao', ca', by omega, by omega, rfl, Lib.hid HEA.out.symm, rfl, hown2, hnx', by unfold I64; omega⟩
          case measure => simp [slen]; omega
    · have hN1 : Hid (N = k) := Lib.hid (by omega)
      have hn : ¬ (f ≤ a ∧ a < t) := fun h => hl (hlt.2 h)
      clear hlt
      by_cases h1 : f ≤ a
      · have h2 : ¬ a < t := fun h => hn ⟨h1, h⟩
        clear hn
        go_wp2
        go_ret2
        rw [R.out, if_pos (by have := hN1.out; omega), hN1.out]
        exact ⟨_, rfl, by unfold OwnInts; rw [GL_len]; exact hown, hnx⟩
      · clear hn
        go_wp2
        go_ret2
        rw [R.out, if_pos (by have := hN1.out; omega), hN1.out]
        exact ⟨_, rfl, by unfold OwnInts; rw [GL_len]; exact hown, hnx⟩
set_option maxRecDepth 100000 in
set_option maxHeartbeats 400000 in
theorem rstarts_any (f t e most : Int) (w : World) (hf : I64 f) (ht : I64 t) (he : I64 e) (hmI : I64 most) (hm : most ≤ 1000000) :
    Calls Try.prog 14 #[.int .i64 f, .int .i64 t, .int .i64 e, .int .i64 most] w (StartsPost w (gstarts f t e most)) := by
  by_cases h1 : e < 1
  · have R : Hid (gstarts f t e most = ([], false)) := Lib.hid (by unfold gstarts; rw [if_pos (.inl h1)])
    unfold I64 at he hmI
    go_enter Try.func14, Try.ntmps14
    go_wp2
    go_ret2
    rw [R.out]
    exact ⟨_, rfl, World.ownsRow_nil _ _ _ _, Below.refl _ _⟩
  · by_cases h2 : most < 0
    · have R : Hid (gstarts f t e most = ([], false)) := Lib.hid (by unfold gstarts; rw [if_pos (.inr h2)])
      unfold I64 at he hmI
      go_enter Try.func14, Try.ntmps14
      go_wp2
      go_ret2
      rw [R.out]
      exact ⟨_, rfl, World.ownsRow_nil _ _ _ _, Below.refl _ _⟩
    · exact rstarts_loop f t e most w hf ht he hm (by omega) (by omega)
end Go.Proofs.Ytkgcebcbkdkanaa
