/-
  The contract of agg.Merge.
-/
import Derived.Test.YtagpamgdgcghfaaAggOf
namespace Go.Proofs.Ytagpamgdgcghfaa
open Go.RowKit
set_option linter.unusedVariables false
set_option linter.unusedSimpArgs false

/-- A slice of aggregates that may be read. -/
def AggsAt (w : World) (v : Value) (l : List AggV) : Prop :=
  ∃ a c, v = .slice a l.length c ∧ (∀ x ∈ l, x.ok) ∧ l.length ≤ 9223372036854775807 ∧
    (l ≠ [] → ∃ b o, a = some ⟨b, o, none⟩ ∧ b < w.heap.size ∧ ∀ j, j < l.length →
      w.cell? ⟨b, o + j * 5, none⟩ = some (.int .i64 (l.getD j AggV.zero).c) ∧ w.cell? ⟨b, o + j * 5 + 1, none⟩ = some (.int .i64 (l.getD j AggV.zero).hi) ∧ w.cell? ⟨b, o + j * 5 + 2, none⟩ = some (.int .u64 (l.getD j AggV.zero).lo) ∧
      w.cell? ⟨b, o + j * 5 + 3, none⟩ = some (.int .i64 (l.getD j AggV.zero).mn) ∧ w.cell? ⟨b, o + j * 5 + 4, none⟩ = some (.int .i64 (l.getD j AggV.zero).mx))

theorem AggsAt.below {w w' : World} {v : Value} {l : List AggV} (h : AggsAt w v l) (hb : Below w.heap.size w w') : AggsAt w' v l := by
  obtain ⟨a, c, h1, h2, h3, h4⟩ := h
  refine ⟨a, c, h1, h2, h3, fun hn => ?_⟩
  obtain ⟨b, o, h5, h6, h7⟩ := h4 hn
  refine ⟨b, o, h5, Nat.lt_of_lt_of_le h6 hb.size, fun j hj => ?_⟩
  obtain ⟨g0, g1, g2, g3, g4⟩ := h7 j hj
  exact ⟨(hb.cell h6).trans g0, (hb.cell h6).trans g1, (hb.cell h6).trans g2, (hb.cell h6).trans g3, (hb.cell h6).trans g4⟩

def AggV.row (A : AggV) : List Value := [.int .i64 A.c, .int .i64 A.hi, .int .u64 A.lo, .int .i64 A.mn, .int .i64 A.mx]
theorem rows_get : ∀ (l : List AggV) (j i : Nat), j < l.length → i < 5 → (l.flatMap AggV.row)[j * 5 + i]? = (l.getD j AggV.zero).row[i]?
  | [], _, _, h, _ => by simp at h
  | A :: l, 0, i, _, hi => by
    rw [List.flatMap_cons, List.getElem?_append_left (by simp [AggV.row]; omega)]; simp
  | A :: l, j + 1, i, h, hi => by
    rw [List.flatMap_cons, List.getElem?_append_right (by simp [AggV.row]; omega)]
    have := rows_get l j i (by simpa using h) hi
    rw [show (j + 1) * 5 + i - (AggV.row A).length = j * 5 + i by simp [AggV.row]; omega, this]
    simp
/-- A block that was filled with aggregates. -/
theorem aggs_of_row {w : World} {b c : Nat} {l : List AggV} {T : TypeId} {fr : Nat × Nat} (h : w.heap[b]? = some (.cells (l.flatMap AggV.row).toArray T fr)) (hok : ∀ x ∈ l, x.ok) (hlen : l.length ≤ 9223372036854775807) :
    AggsAt w (.slice (some ⟨b, 0, none⟩) l.length c) l := by
  refine ⟨_, _, rfl, hok, hlen, fun _ => ⟨b, 0, rfl, heap_lt h, fun j hj => ?_⟩⟩
  have g : ∀ i, i < 5 → w.cell? ⟨b, 0 + j * 5 + i, none⟩ = (l.getD j AggV.zero).row[i]? := fun i hi => by
    rw [cell_of_row w b _ _ _ _ h, Nat.zero_add, List.getElem?_toArray, rows_get l j i hj hi]
  exact ⟨g 0 (by omega), g 1 (by omega), g 2 (by omega), g 3 (by omega), g 4 (by omega)⟩

theorem aggs_new {w : World} {b c : Nat} {l : List AggV} {cs : Array Value} {T : TypeId} {fr : Nat × Nat} (hk : w.heap.size = b) (hcs : cs = (l.flatMap AggV.row).toArray) (hok : ∀ x ∈ l, x.ok) (hlen : l.length ≤ 9223372036854775807) :
    AggsAt (w.alloc (.cells cs T fr)) (.slice (some ⟨b, 0, none⟩) l.length c) l := by subst hcs; exact aggs_of_row (heap_new_at hk) hok hlen

theorem take_snocA {l : List AggV} {k : Nat} (h : k < l.length) : l.take (k + 1) = l.take k ++ [l.getD k AggV.zero] := by
  rw [List.take_succ_eq_append_getElem h]; simp [h]

theorem amerge_take (l : List AggV) (k : Nat) (h : k < l.length) : amerge (l.take (k + 1)) = if (l.getD k AggV.zero).valid then aboth (amerge (l.take k)) (l.getD k AggV.zero) else amerge (l.take k) := by
  rw [take_snocA h, amerge_snoc]

set_option maxRecDepth 100000 in
set_option maxHeartbeats 1000000 in
theorem merge_any (v : Value) (l : List AggV) (w : World) (h : AggsAt w v l) :
    Calls Try.prog 13 #[v] w (RetB w (amerge l).val) := by
  obtain ⟨a, ca, rfl, hI, hlen, hc⟩ := h
  have HC := Lib.hid hc
  have HI := Lib.hid hI
  clear hc hI
  go_enter Try.func13, Try.ntmps13
  go_wp2
  go_loopw [5, 8] (fun _ i wr => ∃ (k : Nat) (A : AggV), k ≤ l.length ∧ i = .int .i64 k ∧ Hid (A = amerge (l.take k)) ∧ Hid (wr.heap[w.heap.size + 1]? = some (.cells #[.int .i64 A.c, .int .i64 A.hi, .int .u64 A.lo, .int .i64 A.mn, .int .i64 A.mx] 26)) ∧ Hid (wr.heap[w.heap.size]? = some (.cells #[.int .i64 AggV.zero.c, .int .i64 AggV.zero.hi, .int .u64 AggV.zero.lo, .int .i64 AggV.zero.mn, .int .i64 AggV.zero.mx] 26)) ∧ Below w.heap.size w wr) (fun _ i _ => l.length - (intOf i).toNat)
  case atStart =>
    refine ⟨0, AggV.zero, Nat.zero_le _, rfl, rfl, ?_, ?_, bel_alloc (bel_alloc (Below.refl _ _) (Nat.le_refl _)) (by simp)⟩
    · exact Lib.hid (by rw [show w.heap.size + 1 = (w.alloc (.cells #[.int .i64 AggV.zero.c, .int .i64 AggV.zero.hi, .int .u64 AggV.zero.lo, .int .i64 AggV.zero.mn, .int .i64 AggV.zero.mx] 26)).heap.size by simp]; exact heap_alloc_new _ _)
    · exact Lib.hid (by rw [Below.heap_alloc _ _ _ (by simp)]; exact heap_alloc_new _ _)
  case round =>
    obtain ⟨k, A, hk, rfl, HA, HB, HZ, hnx⟩ := hrel
    have hsz := heap_lt HB.out
    by_cases hlt : k < l.length
    · obtain ⟨b, o, rfl, hbw, hcl⟩ := HC.out (by intro h; simp [h] at hlt)
      obtain ⟨g0, g1, g2, g3, g4⟩ := hcl k hlt
      have hxI := HI.out (l.getD k AggV.zero) (by simp [hlt])
      replace g0 := (hnx.cell hbw).trans g0
      replace g1 := (hnx.cell hbw).trans g1
      replace g2 := (hnx.cell hbw).trans g2
      replace g3 := (hnx.cell hbw).trans g3
      replace g4 := (hnx.cell hbw).trans g4
      obtain ⟨X, hX⟩ : ∃ X, X = l.getD k AggV.zero := ⟨_, rfl⟩
      rw [← hX] at g0 g1 g2 g3 g4 hxI
      have HX := Lib.hid hX
      have HXI := Lib.hid hxI
      have hAok := Lib.hid (show A.ok by rw [HA.out]; exact amerge_ok _ (fun y hy => HI.out y (List.mem_of_mem_take hy)))
      have hB := HB.out
      clear hX hcl hxI
      have HR1 := Lib.hid (amerge_take l k hlt)
      go_wp2_with fail
      refine (valid_val X _).mono ?_
      rintro e w1 ⟨rfl, hb1⟩
      have hx0 : (wr.alloc (.cells #[.int .i64 X.c, .int .i64 X.hi, .int .u64 X.lo, .int .i64 X.mn, .int .i64 X.mx] 26)).heap[wr.heap.size]? = _ := heap_alloc_new _ _
      have hB1 := Lib.hid (heap_step ((Below.heap_alloc wr (.cells #[.int .i64 X.c, .int .i64 X.hi, .int .u64 X.lo, .int .i64 X.mn, .int .i64 X.mx] 26) _ hsz).trans hB) hb1)
      have hX1 := Lib.hid (heap_step hx0 hb1)
      have hZ1 := Lib.hid (heap_step ((Below.heap_alloc wr (.cells #[.int .i64 X.c, .int .i64 X.hi, .int .u64 X.lo, .int .i64 X.mn, .int .i64 X.mx] 26) _ (by omega)).trans HZ.out) hb1)
      have hnx1 := bel_step (bel_alloc (o := .cells #[.int .i64 X.c, .int .i64 X.hi, .int .u64 X.lo, .int .i64 X.mn, .int .i64 X.mx] 26) hnx hnx.size) hb1 (by simp; have := hnx.size; omega)
      have hs1 : wr.heap.size < w1.heap.size := by have := hb1.size; simp at this; omega
      clear hB hx0 g0 g1 g2 g3 g4
      by_cases hv : X.valid = true
      · rw [hv]
        rw [← HX.out, if_pos hv] at HR1
        obtain ⟨c0, c1, c2, c3, c4⟩ := agg_cells hB1.out
        obtain ⟨d0, d1, d2, d3, d4⟩ := agg_cells hX1.out
        clear hv
        go_wp2_with fail
        refine (both_val A X _ hAok.out HXI.out).mono ?_
        rintro e w2 ⟨rfl, hb2⟩
        generalize hR : aboth A X = R
        have HR := Lib.hid hR
        clear hR c0 c1 c2 c3 c4 d0 d1 d2 d3 d4
        simp only [AggV.val]
        have hB2 := heap_step hB1.out hb2
        obtain ⟨c0, c1, c2, c3, c4⟩ := agg_cells hB2
        have f0 := frozen_row (o := 0) hB2
        have f1 := frozen_row (o := 1) hB2
        have f2 := frozen_row (o := 2) hB2
        have f3 := frozen_row (o := 3) hB2
        have f4 := frozen_row (o := 4) hB2
        have HR' := Lib.hid (agg_set R hB2)
        have HZ' := Lib.hid ((agg_set_other (k := w.heap.size) (b := w.heap.size + 1) R (by omega)).trans (heap_step hZ1.out hb2))
        have hnx' := agg_set_bel (b := w.heap.size + 1) R (bel_step hnx1 hb2 (by omega)) (by omega)
        clear hB2
        go_wp2
        go_roundw
        case rel => exact ⟨k + 1, R, by omega, by go_num, by rw [← HR.out, HA.out]; exact HR1.out.symm, HR', HZ', hnx'⟩
        case measure => simp [intOf]; omega
      · have hv' : X.valid = false := by simpa using hv
        rw [hv']
        rw [← HX.out, if_neg hv] at HR1
        clear hv hv'
        go_wp2
        go_roundw
        case rel => exact ⟨k + 1, A, by omega, by go_num, by rw [HA.out]; exact HR1.out.symm, hB1, hZ1, hnx1⟩
        case measure => simp [intOf]; omega
    · have hkl : k = l.length := by omega
      subst hkl
      have hB := HB.out
      have hZ := HZ.out
      obtain ⟨c0, c1, c2, c3, c4⟩ := agg_cells hB
      obtain ⟨e0, e1, e2, e3, e4⟩ := agg_cells hZ
      have f0 := frozen_row (o := 0) hZ
      have f1 := frozen_row (o := 1) hZ
      have f2 := frozen_row (o := 2) hZ
      have f3 := frozen_row (o := 3) hZ
      have f4 := frozen_row (o := 4) hZ
      clear hB hZ
      go_wp2
      have hR := agg_set A HZ.out
      obtain ⟨q0, q1, q2, q3, q4⟩ := agg_cells hR
      refine bodyPost_ret (v := A.val) (by simp [results, Try.results13, go_sem, q0, q1, q2, q3, q4, AggV.val]) rfl ⟨by rw [HA.out]; simp, agg_set_bel A hnx (Nat.le_refl _)⟩

end Go.Proofs.Ytagpamgdgcghfaa
