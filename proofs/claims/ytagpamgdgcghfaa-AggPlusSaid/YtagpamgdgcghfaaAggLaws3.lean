/-
  The walk of the law AggPlus.
-/
import Derived.Test.YtagpamgdgcghfaaAggLaws2
import Derived.Test.YtagpamgdgcghfaaAggAlg
namespace Go.Proofs.Ytagpamgdgcghfaa
open Go.RowKit
set_option linter.unusedVariables false
set_option linter.unusedSimpArgs false

theorem m2_amerge (a x : AggV) : m2 (amerge [a]) x = m2 a x := by
  rw [amerge_one]
  by_cases h : a.valid = true
  · rw [if_pos h]
  · rw [if_neg h]; unfold m2; simp [h, zero_invalid]

theorem plus_step (a : AggV) (l : List Int) (k : Nat) (h : k < l.length) : amerge [m2 a (aof (l.take k)), aof [l.getD k 0]] = m2 a (aof (l.take (k + 1))) := by
  rw [amerge_two, m2_assoc, ← aof_append, take_snoc h]

theorem keepS {w w' : World} {b1 b2 : Nat} {w0 : World} {A B : AggV} (h1 : w.heap[b1]? = some (.cells #[.int .i64 B.c, .int .i64 B.hi, .int .u64 B.lo, .int .i64 B.mn, .int .i64 B.mx] 26)) (h2 : w.heap[b2]? = some (.cells #[.int .i64 A.c, .int .i64 A.hi, .int .u64 A.lo, .int .i64 A.mn, .int .i64 A.mx] 26)) (h3 : Below w0.heap.size w0 w) (hb : Below w.heap.size w w') :
    w'.heap[b1]? = some (.cells #[.int .i64 B.c, .int .i64 B.hi, .int .u64 B.lo, .int .i64 B.mn, .int .i64 B.mx] 26) ∧ w'.heap[b2]? = some (.cells #[.int .i64 A.c, .int .i64 A.hi, .int .u64 A.lo, .int .i64 A.mn, .int .i64 A.mx] 26) ∧ Below w0.heap.size w0 w' ∧ (w'.cell? ⟨b1, 0, none⟩ = some (.int .i64 B.c) ∧ w'.cell? ⟨b1, 1, none⟩ = some (.int .i64 B.hi) ∧ w'.cell? ⟨b1, 2, none⟩ = some (.int .u64 B.lo) ∧ w'.cell? ⟨b1, 3, none⟩ = some (.int .i64 B.mn) ∧ w'.cell? ⟨b1, 4, none⟩ = some (.int .i64 B.mx)) ∧ (w'.cell? ⟨b2, 0, none⟩ = some (.int .i64 A.c) ∧ w'.cell? ⟨b2, 1, none⟩ = some (.int .i64 A.hi) ∧ w'.cell? ⟨b2, 2, none⟩ = some (.int .u64 A.lo) ∧ w'.cell? ⟨b2, 3, none⟩ = some (.int .i64 A.mn) ∧ w'.cell? ⟨b2, 4, none⟩ = some (.int .i64 A.mx)) :=
  ⟨heap_step h1 hb, heap_step h2 hb, chain h3 hb, agg_cells (heap_step h1 hb), agg_cells (heap_step h2 hb)⟩
theorem keepS_alloc {w : World} {o : Obj} {b1 b2 : Nat} {w0 : World} {A B : AggV} (h1 : w.heap[b1]? = some (.cells #[.int .i64 B.c, .int .i64 B.hi, .int .u64 B.lo, .int .i64 B.mn, .int .i64 B.mx] 26)) (h2 : w.heap[b2]? = some (.cells #[.int .i64 A.c, .int .i64 A.hi, .int .u64 A.lo, .int .i64 A.mn, .int .i64 A.mx] 26)) (h3 : Below w0.heap.size w0 w) :
    (w.alloc o).heap[b1]? = some (.cells #[.int .i64 B.c, .int .i64 B.hi, .int .u64 B.lo, .int .i64 B.mn, .int .i64 B.mx] 26) ∧ (w.alloc o).heap[b2]? = some (.cells #[.int .i64 A.c, .int .i64 A.hi, .int .u64 A.lo, .int .i64 A.mn, .int .i64 A.mx] 26) ∧ Below w0.heap.size w0 (w.alloc o) ∧ ((w.alloc o).cell? ⟨b1, 0, none⟩ = some (.int .i64 B.c) ∧ (w.alloc o).cell? ⟨b1, 1, none⟩ = some (.int .i64 B.hi) ∧ (w.alloc o).cell? ⟨b1, 2, none⟩ = some (.int .u64 B.lo) ∧ (w.alloc o).cell? ⟨b1, 3, none⟩ = some (.int .i64 B.mn) ∧ (w.alloc o).cell? ⟨b1, 4, none⟩ = some (.int .i64 B.mx)) ∧ ((w.alloc o).cell? ⟨b2, 0, none⟩ = some (.int .i64 A.c) ∧ (w.alloc o).cell? ⟨b2, 1, none⟩ = some (.int .i64 A.hi) ∧ (w.alloc o).cell? ⟨b2, 2, none⟩ = some (.int .u64 A.lo) ∧ (w.alloc o).cell? ⟨b2, 3, none⟩ = some (.int .i64 A.mn) ∧ (w.alloc o).cell? ⟨b2, 4, none⟩ = some (.int .i64 A.mx)) :=
  keepS h1 h2 h3 (bel_alloc (Below.refl _ _) (Nat.le_refl _))

set_option maxRecDepth 100000 in
set_option maxHeartbeats 4000000 in
theorem walkAggPlus (A : AggV) (v : Value) (l : List Int) (w : World) (hA : A.ok) (hv : IntsAt w v l) : Calls Try.prog 7 #[A.val, v] w (BoolPost w true) := by
  have HV := Lib.hid hv
  have HA := Lib.hid hA
  obtain ⟨a, ca, rfl, hI, hlen, hc⟩ := hv
  have HC := Lib.hid hc
  have HI := Lib.hid hI
  clear hI hc hA
  by_cases h6 : 60 < l.length
  · have h60 : (60 : Int) < l.length := by omega
    simp only [AggV.val]
    clear h6
    go_enter Try.func7, Try.ntmps7
    go_wp2_with (go_at_call 10; refine (alive_any _).mono ?_; rintro e w1 ⟨rfl, hb1⟩)
    go_ret
    exact ⟨rfl, chain (bel_alloc (Below.refl _ _) (Nat.le_refl _)) hb1⟩
  · have h60 : ¬ (60 : Int) < l.length := by omega
    simp only [AggV.val]
    clear h6
    go_enter Try.func7, Try.ntmps7
    go_wp2_with fail
    refine (merge_any _ [A] _ (aggs_new (by simp) rfl (by simp; exact HA.out) (by simp))).mono ?_
    rintro e w1 ⟨rfl, hb1⟩
    obtain ⟨B0, hB0⟩ : ∃ B0, B0 = m2 A (aof (l.take 0)) := ⟨_, rfl⟩
    rw [show amerge [A] = B0 by rw [hB0, ← m2_amerge]; exact (m2_zero _ (by rw [amerge_one]; unfold VZ; split <;> simp_all)).symm]
    have HB0 := Lib.hid hB0
    clear hB0
    simp only [AggV.val]
    have hA1 := heap_step ((Below.heap_alloc (w.alloc (.cells #[.int .i64 A.c, .int .i64 A.hi, .int .u64 A.lo, .int .i64 A.mn, .int .i64 A.mx] 26)) (.cells #[.int .i64 A.c, .int .i64 A.hi, .int .u64 A.lo, .int .i64 A.mn, .int .i64 A.mx] 26) w.heap.size (by simp)).trans (heap_alloc_new _ _)) hb1
    have HA1 := Lib.hid hA1
    have hnx1 : Below w.heap.size w w1 := chain (bel_alloc (bel_alloc (Below.refl _ _) (Nat.le_refl _)) (by simp)) hb1
    have hs1 := heap_lt hA1
    clear hA1
    go_wp2
    go_loopw [6] (fun i wr => ∃ (k : Nat) (B : AggV), k ≤ l.length ∧ i = .int .i64 k ∧ Hid (B = m2 A (aof (l.take k))) ∧ Hid (wr.heap[w1.heap.size]? = some (.cells #[.int .i64 B.c, .int .i64 B.hi, .int .u64 B.lo, .int .i64 B.mn, .int .i64 B.mx] 26)) ∧ Hid (wr.heap[w.heap.size]? = some (.cells #[.int .i64 A.c, .int .i64 A.hi, .int .u64 A.lo, .int .i64 A.mn, .int .i64 A.mx] 26)) ∧ Below w.heap.size w wr) (fun i _ => l.length - (intOf i).toNat)
    case atStart => exact ⟨0, B0, Nat.zero_le _, rfl, HB0, Lib.hid (heap_alloc_new _ _), Lib.hid ((Below.heap_alloc _ _ _ hs1).trans HA1.out), bel_alloc hnx1 hnx1.size⟩
    case round =>
      obtain ⟨k, B, hk, rfl, HB, HBr, HAr, hnx⟩ := hrel
      have hsB := heap_lt HBr.out
      have hsA := heap_lt HAr.out
      by_cases hlt : k < l.length
      · obtain ⟨b, o, rfl, hbw, hcl⟩ := HC.out (by intro h; simp [h] at hlt)
        have hx := hcl k hlt
        have hxI := HI.out (l.getD k 0) (by simp [hlt])
        have hxr := (hnx.cell (p := ⟨b, o + k, none⟩) hbw).trans hx
        have HS := Lib.hid (plus_step A l k hlt)
        obtain ⟨x, hxe⟩ : ∃ x, x = l.getD k 0 := ⟨_, rfl⟩
        rw [← hxe] at hxr hxI HS
        have hBok : B.ok := by
          rw [HB.out, ← m2_amerge, ← amerge_two]
          refine amerge_ok _ ?_
          intro y hy
          simp only [List.mem_cons, List.not_mem_nil, or_false] at hy
          rcases hy with rfl | rfl
          · exact amerge_ok _ (by simp; exact HA.out)
          · exact aof_ok _ (fun y hy => HI.out y (List.mem_of_mem_take hy))
        have HBok := Lib.hid hBok
        have hB := HBr.out
        obtain ⟨c0, c1, c2, c3, c4⟩ := agg_cells hB
        clear hx hxe hcl hBok
        go_wp2_with fail
        go_region_with (first | (go_at_call 16; refine (add_any B _ [x] _ HBok.out (ints_new (by simp) rfl (by simp; omega) (by simp)).drew).mono ?_; rintro e w2 ⟨rfl, hb2⟩; generalize hR : amerge _ = R; have HR := Lib.hid hR; clear hR; simp only [AggV.val]; have hB2 := heap_step (heap_drew ((Below.heap_alloc _ _ _ hsB).trans hB)) hb2; obtain ⟨d0, d1, d2, d3, d4⟩ := agg_cells hB2; have f0 := frozen_row (o := 0) hB2; have f1 := frozen_row (o := 1) hB2; have f2 := frozen_row (o := 2) hB2; have f3 := frozen_row (o := 3) hB2; have f4 := frozen_row (o := 4) hB2))
        all_goals
          have HR' := Lib.hid (agg_set R hB2)
          have hA2 := heap_step (heap_drew ((Below.heap_alloc wr (.cells #[.int .i64 x] 3) _ hsA).trans HAr.out)) hb2
          have HA' := Lib.hid ((agg_set_other (k := w.heap.size) (b := w1.heap.size) R (by omega)).trans hA2)
          have hnx' := agg_set_bel (b := w1.heap.size) R (bel_step (bel_alloc (o := .cells #[.int .i64 x] 3) hnx hnx.size).drew hb2 (by simp; omega)) (by omega)
          clear d0 d1 d2 d3 d4 f0 f1 f2 f3 f4 hB2 hA2 c0 c1 c2 c3 c4
          go_wp2
          go_roundw
          case rel => exact ⟨k + 1, R, by omega, by go_num, Lib.hid (by rw [← HR.out, HB.out]; exact HS.out), HR', HA', hnx'⟩
          case measure => simp [intOf]; omega
      · have hkl : k = l.length := by omega
        subst hkl
        have hBe := HB.out
        rw [List.take_length] at hBe
        have HBe := Lib.hid hBe
        have HF1 := Lib.hid (show amerge [A, aof l] = B by rw [amerge_two, hBe])
        clear hBe hlt
        have hB := HBr.out
        have hAA := HAr.out
        obtain ⟨c0, c1, c2, c3, c4⟩ := agg_cells hB
        obtain ⟨d0, d1, d2, d3, d4⟩ := agg_cells hAA
        go_wp2_with fail
        go_region_held3 (fun w' => w'.heap[w1.heap.size]? = some (.cells #[.int .i64 B.c, .int .i64 B.hi, .int .u64 B.lo, .int .i64 B.mn, .int .i64 B.mx] 26) ∧ w'.heap[w.heap.size]? = some (.cells #[.int .i64 A.c, .int .i64 A.hi, .int .u64 A.lo, .int .i64 A.mn, .int .i64 A.mx] 26) ∧ Below w.heap.size w w' ∧ (w'.cell? ⟨w1.heap.size, 0, none⟩ = some (.int .i64 B.c) ∧ w'.cell? ⟨w1.heap.size, 1, none⟩ = some (.int .i64 B.hi) ∧ w'.cell? ⟨w1.heap.size, 2, none⟩ = some (.int .u64 B.lo) ∧ w'.cell? ⟨w1.heap.size, 3, none⟩ = some (.int .i64 B.mn) ∧ w'.cell? ⟨w1.heap.size, 4, none⟩ = some (.int .i64 B.mx)) ∧ (w'.cell? ⟨w.heap.size, 0, none⟩ = some (.int .i64 A.c) ∧ w'.cell? ⟨w.heap.size, 1, none⟩ = some (.int .i64 A.hi) ∧ w'.cell? ⟨w.heap.size, 2, none⟩ = some (.int .u64 A.lo) ∧ w'.cell? ⟨w.heap.size, 3, none⟩ = some (.int .i64 A.mn) ∧ w'.cell? ⟨w.heap.size, 4, none⟩ = some (.int .i64 A.mx)))
          (((try dsimp only); (try go_split_ands); first | exact ⟨hB, hAA, hnx.drew, agg_cells hB, agg_cells hAA⟩ | exact keepS_alloc (by assumption) (by assumption) (by assumption) | exact keepS (by assumption) (by assumption) (by assumption) hb2 | exact keepS (by assumption) (by assumption) (by assumption) hb3 | exact keepS (by assumption) (by assumption) (by assumption) hb4 | exact keepS (by assumption) (by assumption) (by assumption) hb5))
          (first | (go_at_call 10; refine (alive_any _).mono ?_; rintro e w2 ⟨rfl, hb2⟩) | (go_at_call 16; (try go_split_ands); refine (add_any A _ l _ HA.out (HV.out.below (by assumption))).mono ?_; rintro e w3 ⟨rfl, hb3⟩; rw [HF1.out]; simp only [AggV.val]) | (go_at_call 11; (try go_split_ands); refine (of_any _ l _ (HV.out.below (by assumption))).mono ?_; rintro e w4 ⟨rfl, hb4⟩; simp only [AggV.val]) | (go_at_call 13; refine (merge_any _ [A, aof l] _ (aggs_new (by simp) rfl (by simp; exact ⟨HA.out, aof_ok _ HI.out⟩) (by simp))).mono ?_; rintro e w5 ⟨rfl, hb5⟩; rw [HF1.out]; simp only [AggV.val]))
        all_goals (try go_split_ands)
        all_goals go_wp2
        all_goals go_ret
        all_goals exact ⟨rfl, by assumption⟩

end Go.Proofs.Ytagpamgdgcghfaa
