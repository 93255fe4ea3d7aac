/-
  The contracts of agg.Of, agg.Merge, agg.Sum, agg.Mean, agg.Add.
-/
import Derived.Test.YtagpamgdgcghfaaAggWalks
namespace Go.Proofs.Ytagpamgdgcghfaa
open Go.RowKit
set_option linter.unusedVariables false
set_option linter.unusedSimpArgs false

theorem agg_cells {w : World} {b : Nat} {A : AggV} (h : w.heap[b]? = some (.cells #[.int .i64 A.c, .int .i64 A.hi, .int .u64 A.lo, .int .i64 A.mn, .int .i64 A.mx] 26)) : w.cell? ⟨b, 0, none⟩ = some (.int .i64 A.c) ∧ w.cell? ⟨b, 1, none⟩ = some (.int .i64 A.hi) ∧ w.cell? ⟨b, 2, none⟩ = some (.int .u64 A.lo) ∧ w.cell? ⟨b, 3, none⟩ = some (.int .i64 A.mn) ∧ w.cell? ⟨b, 4, none⟩ = some (.int .i64 A.mx) := by
  refine ⟨?_, ?_, ?_, ?_, ?_⟩ <;> rw [cell_of_row w b _ _ _ _ h] <;> rfl

theorem agg_set {w : World} {b : Nat} {A : AggV} (R : AggV) (h : w.heap[b]? = some (.cells #[.int .i64 A.c, .int .i64 A.hi, .int .u64 A.lo, .int .i64 A.mn, .int .i64 A.mx] 26)) :
    (((((w.setCell ⟨b, 0, none⟩ (.int .i64 R.c)).setCell ⟨b, 1, none⟩ (.int .i64 R.hi)).setCell ⟨b, 2, none⟩ (.int .u64 R.lo)).setCell ⟨b, 3, none⟩ (.int .i64 R.mn)).setCell ⟨b, 4, none⟩ (.int .i64 R.mx)).heap[b]? = some (.cells #[.int .i64 R.c, .int .i64 R.hi, .int .u64 R.lo, .int .i64 R.mn, .int .i64 R.mx] 26) := by
  have := set_heap (i := 4) (set_heap (i := 3) (set_heap (i := 2) (set_heap (i := 1) (set_heap (i := 0) h (.int .i64 R.c)) (.int .i64 R.hi)) (.int .u64 R.lo)) (.int .i64 R.mn)) (.int .i64 R.mx)
  rw [this]; rfl
theorem agg_set_other {w : World} {b k : Nat} (R : AggV) (hk : k ≠ b) :
    (((((w.setCell ⟨b, 0, none⟩ (.int .i64 R.c)).setCell ⟨b, 1, none⟩ (.int .i64 R.hi)).setCell ⟨b, 2, none⟩ (.int .u64 R.lo)).setCell ⟨b, 3, none⟩ (.int .i64 R.mn)).setCell ⟨b, 4, none⟩ (.int .i64 R.mx)).heap[k]? = w.heap[k]? := by
  rw [set_heap_other _ hk, set_heap_other _ hk, set_heap_other _ hk, set_heap_other _ hk, set_heap_other _ hk]
theorem agg_set_bel {a w : World} {B b : Nat} (R : AggV) (h : Below B a w) (hk : B ≤ b) :
    Below B a (((((w.setCell ⟨b, 0, none⟩ (.int .i64 R.c)).setCell ⟨b, 1, none⟩ (.int .i64 R.hi)).setCell ⟨b, 2, none⟩ (.int .u64 R.lo)).setCell ⟨b, 3, none⟩ (.int .i64 R.mn)).setCell ⟨b, 4, none⟩ (.int .i64 R.mx)) :=
  bel_set (bel_set (bel_set (bel_set (bel_set h hk) hk) hk) hk) hk

theorem aof_take (l : List Int) (k : Nat) (h : k < l.length) : aof (l.take (k + 1)) = aboth (aof (l.take k)) (aone (l.getD k 0)) := by
  rw [take_snoc h, aof_snoc]

set_option maxRecDepth 100000 in
set_option maxHeartbeats 1000000 in
theorem of_any (v : Value) (l : List Int) (w : World) (h : IntsAt w v l) :
    Calls Try.prog 11 #[v] w (RetB w (aof l).val) := by
  obtain ⟨a, ca, rfl, hI, hlen, hc⟩ := h
  have HC := Lib.hid hc
  have HI := Lib.hid hI
  clear hc hI
  go_enter Try.func11, Try.ntmps11
  go_wp2
  go_loopw [5, 8] (fun _ i wr => ∃ (k : Nat) (A : AggV), k ≤ l.length ∧ i = .int .i64 k ∧ Hid (A = aof (l.take k)) ∧ Hid (wr.heap[w.heap.size + 1]? = some (.cells #[.int .i64 A.c, .int .i64 A.hi, .int .u64 A.lo, .int .i64 A.mn, .int .i64 A.mx] 26)) ∧ Hid (wr.heap[w.heap.size]? = some (.cells #[.int .i64 AggV.zero.c, .int .i64 AggV.zero.hi, .int .u64 AggV.zero.lo, .int .i64 AggV.zero.mn, .int .i64 AggV.zero.mx] 26)) ∧ Below w.heap.size w wr) (fun _ i _ => l.length - (intOf i).toNat)
  case atStart =>
    refine ⟨0, AggV.zero, Nat.zero_le _, rfl, rfl, ?_, ?_, bel_alloc (bel_alloc (Below.refl _ _) (Nat.le_refl _)) (by simp)⟩
    · exact Lib.hid (by rw [show w.heap.size + 1 = (w.alloc (.cells #[.int .i64 AggV.zero.c, .int .i64 AggV.zero.hi, .int .u64 AggV.zero.lo, .int .i64 AggV.zero.mn, .int .i64 AggV.zero.mx] 26)).heap.size by simp]; exact heap_alloc_new _ _)
    · exact Lib.hid (by rw [Below.heap_alloc _ _ _ (by simp)]; exact heap_alloc_new _ _)
  case round =>
    obtain ⟨k, A, hk, rfl, HA, HB, HZ, hnx⟩ := hrel
    have hsz := heap_lt HB.out
    by_cases hlt : k < l.length
    · obtain ⟨b, o, rfl, hbw, hcl⟩ := HC.out (by intro h; simp [h] at hlt)
      have hx := hcl k hlt
      have hxI := HI.out (l.getD k 0) (by simp [hlt])
      have hxr := (hnx.cell (p := ⟨b, o + k, none⟩) hbw).trans hx
      obtain ⟨x, hxe⟩ : ∃ x, x = l.getD k 0 := ⟨_, rfl⟩
      rw [← hxe] at hxr hxI
      have HX := Lib.hid hxe
      have hAok := Lib.hid (show A.ok by rw [HA.out]; exact aof_ok _ (fun y hy => HI.out y (List.mem_of_mem_take hy)))
      have hB := HB.out
      obtain ⟨c0, c1, c2, c3, c4⟩ := agg_cells hB
      clear hx hxe hcl
      go_wp2_with fail
      go_region_with (first | (go_at_call 30; refine (one_any _ _ hxI).mono ?_; rintro e w1 ⟨rfl, hb1⟩; simp only [AggV.val]; have hB1 : w1.heap[w.heap.size + 1]? = _ := heap_step (show wr.drew.heap[w.heap.size + 1]? = _ from hB) hb1; obtain ⟨e0, e1, e2, e3, e4⟩ := agg_cells hB1) | (go_at_call 29; refine (both_any _ _ _ _ _ _ _ _ _ _ _ hAok.out (aone_ok _ hxI)).mono ?_; rintro e w2 ⟨rfl, hb2⟩; generalize hR : aboth _ _ = R; have HR := Lib.hid hR; clear hR; simp only [AggV.val]; have hB2 : w2.heap[w.heap.size + 1]? = _ := heap_step hB1 hb2; obtain ⟨d0, d1, d2, d3, d4⟩ := agg_cells hB2; have f0 := frozen_row (o := 0) hB2; have f1 := frozen_row (o := 1) hB2; have f2 := frozen_row (o := 2) hB2; have f3 := frozen_row (o := 3) hB2; have f4 := frozen_row (o := 4) hB2))
      all_goals
        have HR' := Lib.hid (agg_set R hB2)
        have hz : w2.heap[w.heap.size]? = _ := heap_step (heap_step (show wr.drew.heap[w.heap.size]? = _ from HZ.out) hb1) hb2
        have HZ' := Lib.hid ((agg_set_other (k := w.heap.size) (b := w.heap.size + 1) R (by omega)).trans hz)
        have hnx' := agg_set_bel (b := w.heap.size + 1) R (bel_step (bel_step hnx.drew hb1 (by simp; exact hnx.size)) hb2 (by have := hb1.size; have := hnx.size; simp at *; omega)) (by omega)
        clear d0 d1 d2 d3 d4 e0 e1 e2 e3 e4 f0 f1 f2 f3 f4 hB2 hB1 hz c0 c1 c2 c3 c4
        go_wp2
        go_roundw
        case rel => exact ⟨k + 1, R, by omega, by go_num, by rw [← HR.out, HX.out, HA.out]; exact Lib.hid (aof_take l k hlt).symm, HR', HZ', hnx'⟩
        case measure => simp [intOf]; omega
    · have hkl : k = l.length := by omega
      subst hkl
      have hB := HB.out
      have hZ := HZ.out
      obtain ⟨c0, c1, c2, c3, c4⟩ := agg_cells hB
      obtain ⟨e0, e1, e2, e3, e4⟩ := agg_cells hZ
      have f0 := frozen_row (o := 0) hZ
      have f1 := frozen_row (o := 1) hZ
      have f2 := frozen_row (o := 2) hZ
      have f3 := frozen_row (o := 3) hZ
      have f4 := frozen_row (o := 4) hZ
      clear hB hZ
      go_wp2
      have hR := agg_set A HZ.out
      obtain ⟨q0, q1, q2, q3, q4⟩ := agg_cells hR
      refine bodyPost_ret (v := A.val) (by simp [results, Try.results11, go_sem, q0, q1, q2, q3, q4, AggV.val]) rfl ⟨by rw [HA.out]; simp, agg_set_bel A hnx (Nat.le_refl _)⟩

end Go.Proofs.Ytagpamgdgcghfaa
