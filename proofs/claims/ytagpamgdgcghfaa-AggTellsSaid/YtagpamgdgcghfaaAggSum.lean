/-
  The contracts of agg.Sum, agg.Mean, agg.Add.
-/
import Derived.Test.YtagpamgdgcghfaaAggMerge
namespace Go.Proofs.Ytagpamgdgcghfaa
open Go.RowKit
set_option linter.unusedVariables false
set_option linter.unusedSimpArgs false

def Ret2 (w : World) (v u : Value) (e : Ending) (w' : World) : Prop := e = .returned (.tuple #[v, u]) ∧ Below w.heap.size w w'

theorem asum_eq (a : AggV) (h : 0 ≤ a.lo ∧ a.lo ≤ 18446744073709551615) : asum a = if (a.hi == wrap64 a.lo / 9223372036854775808) = true then (wrap64 a.lo, false) else if a.hi < 0 then (-9223372036854775808, true) else (9223372036854775807, true) := by
  have e : wrap64 a.lo / 9223372036854775808 = if a.lo < 9223372036854775808 then 0 else -1 := by unfold wrap64; split <;> omega
  have e2 : wrap64 a.lo = w64 a.lo := by unfold wrap64 w64; rfl
  unfold asum
  rw [e, e2]
  simp only [beq_iff_eq]

set_option maxHeartbeats 400000 in
theorem sum_any (A : AggV) (w : World) (h : A.ok) :
    Calls Try.prog 14 #[A.val] w (Ret2 w (.int .i64 (asum A).1) (.bool (asum A).2)) := by
  have hlo := h.2.2.1
  have HE := Lib.hid (asum_eq A hlo)
  simp only [AggV.val]
  by_cases h1 : (A.hi == wrap64 A.lo / 9223372036854775808) = true
  · rw [if_pos h1] at HE
    go_enter Try.func14, Try.ntmps14
    go_wp2
    go_ret2
    rw [HE.out]
    exact ⟨rfl, bel_alloc (Below.refl _ _) (Nat.le_refl _)⟩
  · rw [if_neg h1] at HE
    have h1' : (A.hi == wrap64 A.lo / 9223372036854775808) = false := by simpa using h1
    clear h1
    by_cases h2 : A.hi < 0
    · rw [if_pos h2] at HE
      go_enter Try.func14, Try.ntmps14
      go_wp2
      go_ret2
      rw [HE.out]
      exact ⟨rfl, bel_alloc (Below.refl _ _) (Nat.le_refl _)⟩
    · rw [if_neg h2] at HE
      go_enter Try.func14, Try.ntmps14
      go_wp2
      go_ret2
      rw [HE.out]
      exact ⟨rfl, bel_alloc (Below.refl _ _) (Nat.le_refl _)⟩

theorem asum_in (a : AggV) : -9223372036854775808 ≤ (asum a).1 ∧ (asum a).1 ≤ 9223372036854775807 := by
  have := w64_in a.lo
  unfold asum
  by_cases h1 : a.hi = (if a.lo < 9223372036854775808 then 0 else -1)
  · rw [if_pos h1]; exact this
  · rw [if_neg h1]; split <;> simp

set_option maxHeartbeats 400000 in
theorem mean_any (A : AggV) (w : World) (h : A.ok) :
    Calls Try.prog 15 #[A.val] w (RetB w (.int .i64 (amean A))) := by
  have hs := asum_in A
  have HM : Hid (amean A = if A.valid then (if (asum A).2 then (asum A).1 else (asum A).1.tdiv A.c) else 0) := rfl
  have HH := Lib.hid h
  by_cases hv : A.valid = true
  · rw [if_pos hv] at HM
    have hc : 1 ≤ A.c := by simp [AggV.valid] at hv; omega
    obtain ⟨s, hs1⟩ : ∃ s, s = (asum A).1 := ⟨_, rfl⟩
    obtain ⟨o, ho1⟩ : ∃ o, o = (asum A).2 := ⟨_, rfl⟩
    rw [← hs1] at hs
    rw [← hs1, ← ho1] at HM
    have HS := Lib.hid hs1
    have HO := Lib.hid ho1
    have HV := Lib.hid hv
    clear hs1 ho1 hv
    have hc2 := h.1
    have hc0 : (A.c == 0) = false := by simp; omega
    clear h
    simp only [AggV.val]
    go_enter Try.func15, Try.ntmps15
    go_wp2_with fail
    refine (valid_val A _).mono ?_
    rintro e w1 ⟨rfl, hb1⟩
    rw [HV.out]
    have hA : (w.alloc (.cells #[.int .i64 A.c, .int .i64 A.hi, .int .u64 A.lo, .int .i64 A.mn, .int .i64 A.mx] 26)).heap[w.heap.size]? = _ := heap_alloc_new _ _
    have hA1 := heap_step hA hb1
    obtain ⟨c0, c1, c2, c3, c4⟩ := agg_cells hA1
    have HA1 := Lib.hid hA1
    clear hA hA1
    go_wp2_with fail
    refine (sum_any A _ HH.out).mono ?_
    rintro e w2 ⟨rfl, hb2⟩
    rw [← HS.out, ← HO.out]
    have hA2 := heap_step HA1.out hb2
    clear c0 c1 c2 c3 c4
    obtain ⟨c0, c1, c2, c3, c4⟩ := agg_cells hA2
    have hb : Below w.heap.size w w2 := bel_step (bel_step (bel_alloc (Below.refl _ _) (Nat.le_refl _)) hb1 (by simp)) hb2 (by have := hb1.size; simp at this; omega)
    cases o
    · go_wp2
      go_ret
      rw [HM.out]
      exact ⟨ret_int (by simp), hb⟩
    · go_wp2
      go_ret
      rw [HM.out]
      exact ⟨ret_int (by simp), hb⟩
  · rw [if_neg hv] at HM
    have HV : Hid (A.valid = false) := Lib.hid (by simpa using hv)
    clear hv hs h
    simp only [AggV.val]
    go_enter Try.func15, Try.ntmps15
    go_wp2_with fail
    refine (valid_val A _).mono ?_
    rintro e w1 ⟨rfl, hb1⟩
    rw [HV.out]
    go_wp2
    go_ret
    rw [HM.out]
    exact ⟨rfl, bel_step (bel_alloc (Below.refl _ _) (Nat.le_refl _)) hb1 (by simp)⟩

set_option maxHeartbeats 400000 in
theorem add_any (A : AggV) (v : Value) (l : List Int) (w : World) (h : A.ok) (hv : IntsAt w v l) :
    Calls Try.prog 16 #[A.val, v] w (RetB w (amerge [A, aof l]).val) := by
  have HH := Lib.hid h
  have HV := Lib.hid hv
  obtain ⟨a, ca, rfl, hI, hlen, hc⟩ := hv
  have HFo := Lib.hid (aof_ok l hI)
  clear hI hc h
  simp only [AggV.val]
  go_enter Try.func16, Try.ntmps16
  go_wp2
  have hA0 : ((w.alloc (.cells #[.int .i64 A.c, .int .i64 A.hi, .int .u64 A.lo, .int .i64 A.mn, .int .i64 A.mx] 26)).alloc (.cells #[.int .i64 AggV.zero.c, .int .i64 AggV.zero.hi, .int .u64 AggV.zero.lo, .int .i64 AggV.zero.mn, .int .i64 AggV.zero.mx] 26)).heap[w.heap.size]? = _ := (Below.heap_alloc _ _ _ (by simp)).trans (heap_alloc_new w (.cells #[.int .i64 A.c, .int .i64 A.hi, .int .u64 A.lo, .int .i64 A.mn, .int .i64 A.mx] 26))
  have hZ0 : ((w.alloc (.cells #[.int .i64 A.c, .int .i64 A.hi, .int .u64 A.lo, .int .i64 A.mn, .int .i64 A.mx] 26)).alloc (.cells #[.int .i64 AggV.zero.c, .int .i64 AggV.zero.hi, .int .u64 AggV.zero.lo, .int .i64 AggV.zero.mn, .int .i64 AggV.zero.mx] 26)).heap[w.heap.size + 1]? = some (.cells #[.int .i64 AggV.zero.c, .int .i64 AggV.zero.hi, .int .u64 AggV.zero.lo, .int .i64 AggV.zero.mn, .int .i64 AggV.zero.mx] 26) := by
    rw [show w.heap.size + 1 = (w.alloc (.cells #[.int .i64 A.c, .int .i64 A.hi, .int .u64 A.lo, .int .i64 A.mn, .int .i64 A.mx] 26)).heap.size by simp]; exact heap_alloc_new _ _
  have HA0 := Lib.hid hA0
  have HZ0 := Lib.hid hZ0
  clear hA0 hZ0
  go_region_with (first | (go_at_call 11; refine (of_any _ l _ (HV.out.below (bel_alloc (bel_alloc (Below.refl _ _) (Nat.le_refl _)) (by simp)).drew)).mono ?_; rintro e w1 ⟨rfl, hb1⟩; generalize hF : aof l = F; have HF := Lib.hid hF; clear hF; simp only [AggV.val]; have hA1 := heap_step (w := ((w.alloc (.cells #[.int .i64 A.c, .int .i64 A.hi, .int .u64 A.lo, .int .i64 A.mn, .int .i64 A.mx] 26)).alloc (.cells #[.int .i64 AggV.zero.c, .int .i64 AggV.zero.hi, .int .u64 AggV.zero.lo, .int .i64 AggV.zero.mn, .int .i64 AggV.zero.mx] 26)).drew) HA0.out hb1; obtain ⟨c0, c1, c2, c3, c4⟩ := agg_cells hA1; have HZ1 := Lib.hid (heap_step (w := ((w.alloc (.cells #[.int .i64 A.c, .int .i64 A.hi, .int .u64 A.lo, .int .i64 A.mn, .int .i64 A.mx] 26)).alloc (.cells #[.int .i64 AggV.zero.c, .int .i64 AggV.zero.hi, .int .u64 AggV.zero.lo, .int .i64 AggV.zero.mn, .int .i64 AggV.zero.mx] 26)).drew) HZ0.out hb1); have hs1 := hb1.size; simp at hs1) | (go_at_call 13; refine (merge_any _ [A, F] _ (aggs_new (by simp) rfl (by simp; exact ⟨HH.out, by rw [← HF.out]; exact HFo.out⟩) (by simp))).mono ?_; rintro e w2 ⟨rfl, hb2⟩; generalize hR : amerge _ = R; have HR := Lib.hid hR; clear hR; simp only [AggV.val]; have hZ2 := heap_step ((Below.heap_alloc _ _ _ (heap_lt HZ1.out)).trans HZ1.out) hb2; obtain ⟨d0, d1, d2, d3, d4⟩ := agg_cells hZ2; have f0 := frozen_row (o := 0) hZ2; have f1 := frozen_row (o := 1) hZ2; have f2 := frozen_row (o := 2) hZ2; have f3 := frozen_row (o := 3) hZ2; have f4 := frozen_row (o := 4) hZ2))
  all_goals
    have hR := agg_set R hZ2
    obtain ⟨q0, q1, q2, q3, q4⟩ := agg_cells hR
    have hbel : Below w.heap.size w w2 := bel_step (bel_alloc (bel_step (bel_alloc (bel_alloc (Below.refl _ _) (Nat.le_refl _)) (by simp)).drew hb1 (by simp; omega)) (by omega)) hb2 (by simp; omega)
    clear d0 d1 d2 d3 d4 f0 f1 f2 f3 f4 c0 c1 c2 c3 c4 hA1
    go_wp2
    refine bodyPost_ret (v := R.val) (by simp [results, Try.results16, go_sem, q0, q1, q2, q3, q4, AggV.val]) rfl ⟨by rw [← HR.out, ← HF.out]; rfl, agg_set_bel R hbel (by omega)⟩

end Go.Proofs.Ytagpamgdgcghfaa
