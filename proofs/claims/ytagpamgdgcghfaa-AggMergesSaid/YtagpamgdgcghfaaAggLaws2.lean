/-
  The walk of the law AggMany.
-/
import Derived.Test.YtagpamgdgcghfaaAggLaws1
namespace Go.Proofs.Ytagpamgdgcghfaa
open Go.RowKit
set_option linter.unusedVariables false
set_option linter.unusedSimpArgs false

theorem aof_one (v : Int) : aof [v] = ⟨1, if v < 0 then -1 else 0, v % 18446744073709551616, v, v⟩ := by
  simp [aof, aboth, aone, AggV.zero]

theorem many_facts (n m h l v : Int) (hn : 1 ≤ n) (hn' : n ≤ 4611686018427387904) (hm : 1 ≤ m) (hm' : m ≤ 4611686018427387904) :
    (amerge [⟨n, h, l, v, v⟩, ⟨m, h, l, v, v⟩]).c = (if n ≤ 4611686018427387904 - m then n + m else 4611686018427387904) ∧
    (amerge [⟨n, h, l, v, v⟩, ⟨m, h, l, v, v⟩]).valid = true ∧
    ∀ R : AggV, R.valid = true → (amerge [R, R]).c ≤ 4611686018427387904 := by
  have va : (AggV.valid ⟨n, h, l, v, v⟩) = true := by simp [AggV.valid]; omega
  have vb : (AggV.valid ⟨m, h, l, v, v⟩) = true := by simp [AggV.valid]; omega
  have z : ∀ B, aboth AggV.zero B = B := fun B => by unfold aboth; rw [if_pos (show AggV.zero.c = 0 from rfl)]
  have e : amerge [⟨n, h, l, v, v⟩, ⟨m, h, l, v, v⟩] = aboth ⟨n, h, l, v, v⟩ ⟨m, h, l, v, v⟩ := by
    simp only [amerge, List.foldl_cons, List.foldl_nil]
    rw [if_pos va, if_pos vb, z]
  obtain ⟨p1, p2, p3⟩ := aboth_parts ⟨n, h, l, v, v⟩ ⟨m, h, l, v, v⟩ (show ¬ n = 0 by omega)
  have hc : (amerge [⟨n, h, l, v, v⟩, ⟨m, h, l, v, v⟩]).c = (if n ≤ 4611686018427387904 - m then n + m else 4611686018427387904) := by
    rw [e, p1]
    show (if n < w64 (4611686018427387904 - m) then w64 (n + m) else 4611686018427387904) = _
    have h1 : w64 (4611686018427387904 - m) = 4611686018427387904 - m := by unfold w64; omega
    rw [h1]
    by_cases q : n < 4611686018427387904 - m
    · rw [if_pos q, if_pos (by omega)]; unfold w64; omega
    · rw [if_neg q]; split <;> omega
  refine ⟨hc, ?_, ?_⟩
  · simp only [AggV.valid, decide_eq_true_eq]
    rw [hc]
    rw [e, p2, p3]
    refine ⟨by split <;> omega, by split <;> omega, ?_⟩
    show min v v ≤ max v v
    omega
  · intro R hR
    have e : amerge [R, R] = aboth R R := by
      simp only [amerge, List.foldl_cons, List.foldl_nil]
      rw [if_pos hR, if_pos hR, z]
    have hR' := hR
    simp only [AggV.valid, decide_eq_true_eq] at hR'
    rw [e, (aboth_parts R R (by omega)).1]
    have h1 : w64 (4611686018427387904 - R.c) = 4611686018427387904 - R.c := by unfold w64; omega
    rw [h1]
    by_cases q : R.c < 4611686018427387904 - R.c
    · rw [if_pos q]; unfold w64; omega
    · rw [if_neg q]; omega

set_option maxRecDepth 100000 in
set_option maxHeartbeats 2000000 in
theorem walkAggMany (n : Int) (w0 : (Lit.int .i64 n).wf = true) (m : Int) (w1 : (Lit.int .i64 m).wf = true) (v : Int) (w2 : (Lit.int .i64 v).wf = true) (w : World) :
    Calls Try.prog 5 #[.int .i64 n, .int .i64 m, .int .i64 v] w (BoolPost w true) := by
  have h0 := wf64' w0
  have h1 := wf64' w1
  have h2 := wf64' w2
  clear w0 w1 w2
  by_cases c0 : n < 1
  · go_enter Try.func5, Try.ntmps5
    go_wp2_with (go_at_call 10; refine (alive_any _).mono ?_; rintro e w1 ⟨rfl, hb1⟩)
    go_ret
    exact ⟨rfl, hb1⟩
  · by_cases c1 : 4611686018427387904 < n
    · go_enter Try.func5, Try.ntmps5
      go_wp2_with (go_at_call 10; refine (alive_any _).mono ?_; rintro e w1 ⟨rfl, hb1⟩)
      go_ret
      exact ⟨rfl, hb1⟩
    · by_cases c2 : m < 1
      · go_enter Try.func5, Try.ntmps5
        go_wp2_with (go_at_call 10; refine (alive_any _).mono ?_; rintro e w1 ⟨rfl, hb1⟩)
        go_ret
        exact ⟨rfl, hb1⟩
      · by_cases c3 : 4611686018427387904 < m
        · go_enter Try.func5, Try.ntmps5
          go_wp2_with (go_at_call 10; refine (alive_any _).mono ?_; rintro e w1 ⟨rfl, hb1⟩)
          go_ret
          exact ⟨rfl, hb1⟩
        · obtain ⟨f1, f2, f3⟩ := many_facts n m (if v < 0 then -1 else 0) (v % 18446744073709551616) v (by omega) (by omega) (by omega) (by omega)
          have F1 := Lib.hid f1
          have F2 := Lib.hid f2
          have F3 := Lib.hid f3
          have O := Lib.hid (aof_one v)
          have hok := aone_ok v h2
          clear f1 f2 f3
          go_enter Try.func5, Try.ntmps5
          go_wp2_with fail
          refine (of_any _ [v] _ (ints_new (by simp) rfl (by simp; omega) (by simp))).mono ?_
          rintro e w3 ⟨rfl, hb3⟩
          go_wp2_with fail
          refine (of_any _ [v] _ (ints_new (by simp) rfl (by simp; omega) (by simp))).mono ?_
          rintro e w4 ⟨rfl, hb4⟩
          rw [O.out]
          obtain ⟨h, hh⟩ : ∃ h, h = (if v < 0 then (-1 : Int) else 0) := ⟨_, rfl⟩
          obtain ⟨lo, hlo⟩ : ∃ lo, lo = v % 18446744073709551616 := ⟨_, rfl⟩
          rw [← hh, ← hlo] at F1 F2 ⊢
          have HH := Lib.hid hh
          have HL := Lib.hid hlo
          clear hh hlo
          simp only [AggV.val]
          have hA : AggV.ok ⟨n, h, lo, v, v⟩ ∧ AggV.ok ⟨m, h, lo, v, v⟩ := by
            have e1 := HH.out
            have e2 := HL.out
            unfold AggV.ok
            dsimp only
            by_cases q : v < 0
            · rw [if_pos q] at e1; omega
            · rw [if_neg q] at e1; omega
          have HA := Lib.hid hA
          clear hA hok
          go_wp2_with fail
          refine (merge_any _ [⟨n, h, lo, v, v⟩, ⟨m, h, lo, v, v⟩] _ (aggs_new (by simp) rfl (by simp; exact HA.out) (by simp))).mono ?_
          rintro e w5 ⟨rfl, hb5⟩
          obtain ⟨R, hR⟩ : ∃ R, R = amerge [⟨n, h, lo, v, v⟩, ⟨m, h, lo, v, v⟩] := ⟨_, rfl⟩
          rw [← hR] at F1 F2 ⊢
          have hRok := Lib.hid (show R.ok by rw [hR]; exact amerge_ok _ (by simp; exact HA.out))
          clear hR
          simp only [AggV.val]
          have f3 := F3.out R F2.out
          have q3 : decide ((amerge [R, R]).c ≤ 4611686018427387904) = true := by simpa using f3
          have Q3 := Lib.hid q3
          clear f3 q3
          have hbel : Below w.heap.size w w5 := by
            have a1 := chain (bel_alloc (o := .cells #[.int .i64 v] 3) (Below.refl _ w) (Nat.le_refl _)) hb3
            have a2 := chain (bel_alloc (o := .cells #[.int .i64 v] 3) a1 a1.size) hb4
            exact chain (bel_alloc (bel_alloc (bel_alloc a2 a2.size) (by have := a2.size; simp; omega)) (by have := a2.size; simp; omega)) hb5
          by_cases q : n ≤ 4611686018427387904 - m
          all_goals
            have f1 := F1.out
            first | rw [if_pos q] at f1 | rw [if_neg q] at f1
            have q1 := beq_iff_eq.2 f1
            clear f1
            go_wp2_with fail
            refine (alive_any _).mono ?_
            rintro e w6 ⟨rfl, hb6⟩
            have hR6 := heap_step (heap_alloc_new w5 _) hb6
            obtain ⟨c0, c1, c2, c3, c4⟩ := agg_cells hR6
            have HR6 := Lib.hid hR6
            clear hR6
            go_wp2_with fail
            refine (valid_val R _).mono ?_
            rintro e w7 ⟨rfl, hb7⟩
            rw [F2.out]
            clear c0 c1 c2 c3 c4
            obtain ⟨c0, c1, c2, c3, c4⟩ := agg_cells (heap_step HR6.out hb7)
            have k0 := field0
            go_wp2_with fail
            refine (merge_any _ [R, R] _ (aggs_new (by simp) rfl (by simp; exact hRok.out) (by simp))).mono ?_
            rintro e w8 ⟨rfl, hb8⟩
            have q3 := Q3.out
            simp only [AggV.val]
            go_wp2
            go_ret
            exact ⟨rfl, chain (chain (bel_alloc hbel hbel.size) hb6) (chain hb7 (chain (bel_alloc (Below.refl _ _) (Nat.le_refl _)) hb8))⟩
end Go.Proofs.Ytagpamgdgcghfaa
