/-
  The walk of the law AggEnds.
-/
import Derived.Test.YtagpamgdgcghfaaAggAlive
namespace Go.Proofs.Ytagpamgdgcghfaa
open Go.RowKit
set_option linter.unusedVariables false
set_option linter.unusedSimpArgs false

theorem aboth_parts (a b : AggV) (h : ¬ a.c = 0) : (aboth a b).c = (if a.c < w64 (4611686018427387904 - b.c) then w64 (a.c + b.c) else 4611686018427387904) ∧ (aboth a b).mn = min a.mn b.mn ∧ (aboth a b).mx = max a.mx b.mx := by
  unfold aboth; rw [if_neg h]; exact ⟨rfl, rfl, rfl⟩

/-- What Of tells of the least, the greatest, and how many. -/
theorem aof_facts : ∀ (l : List Int), l.length ≤ 1000 → (aof l).c = l.length ∧ (l ≠ [] → (aof l).mn ∈ l ∧ (aof l).mx ∈ l ∧ ∀ x ∈ l, (aof l).mn ≤ x ∧ x ≤ (aof l).mx) := by
  intro l
  induction l using snoc_ind with
  | h0 => intro _; exact ⟨rfl, fun h => absurd rfl h⟩
  | h1 l x ih =>
    intro hl
    simp only [List.length_append, List.length_cons, List.length_nil] at hl
    obtain ⟨i1, i2⟩ := ih (by omega)
    rw [aof_snoc]
    by_cases h0 : (aof l).c = 0
    · have : l = [] := List.eq_nil_of_length_eq_zero (by omega)
      subst this
      have e : aboth (aof []) (aone x) = aone x := by unfold aboth; rw [if_pos h0]
      rw [e]
      exact ⟨rfl, fun _ => ⟨by simp [aone], by simp [aone], by simp [aone]⟩⟩
    · have hne : l ≠ [] := by intro h; subst h; simp at i1; omega
      obtain ⟨j1, j2, j3⟩ := i2 hne
      obtain ⟨p1, p2, p3⟩ := aboth_parts (aof l) (aone x) h0
      have e1 : (aone x).c = 1 := rfl
      have e2 : (aone x).mn = x := rfl
      have e3 : (aone x).mx = x := rfl
      rw [p1, p2, p3, e1, e2, e3, i1]
      refine ⟨?_, fun _ => ⟨?_, ?_, ?_⟩⟩
      · have hw : w64 (4611686018427387904 - 1) = 4611686018427387903 := by unfold w64; omega
        rw [hw, if_pos (by omega)]; unfold w64; simp only [List.length_append, List.length_cons, List.length_nil]; omega
      · by_cases hm : (aof l).mn ≤ x
        · rw [Int.min_eq_left hm]; simp [j1]
        · rw [Int.min_eq_right (by omega)]; simp
      · by_cases hm : x ≤ (aof l).mx
        · rw [Int.max_eq_left hm]; simp [j2]
        · rw [Int.max_eq_right (by omega)]; simp
      · intro y hy
        simp only [List.mem_append, List.mem_singleton] at hy
        rcases hy with hy | rfl
        · have := j3 y hy; omega
        · omega

theorem any_snoc (l : List Int) (k : Nat) (m : Int) (h : k < l.length) : (l.take (k + 1)).any (· == m) = ((l.take k).any (· == m) || (l.getD k 0 == m)) := by
  rw [take_snoc h]; simp [List.any_append]

set_option maxRecDepth 100000 in
set_option maxHeartbeats 2000000 in
theorem walkAggEnds (v : Value) (l : List Int) (w : World) (hv : IntsAt w v l) : Calls Try.prog 3 #[v] w (BoolPost w true) := by
  have HV := Lib.hid hv
  obtain ⟨a, ca, rfl, hI, hlen, hc⟩ := hv
  have HC := Lib.hid hc
  clear hI hc
  by_cases h : l.length < 1
  · have h0 : (l.length : Int) < 1 := by omega
    have e5 : aof [] = ⟨0, 0, 0, 0, 0⟩ := rfl
    clear h
    go_enter Try.func3, Try.ntmps3
    go_wp2_with fail
    refine (alive_any _).mono ?_
    rintro e w1 ⟨rfl, h1⟩
    go_wp2_with fail
    refine (of_any _ [] _ (ints_nil _)).mono ?_
    rintro e w2 ⟨rfl, h2⟩
    rw [e5]
    simp only [AggV.val]
    go_wp2
    go_ret
    exact ⟨rfl, chain h1 h2⟩
  · by_cases h6 : 60 < l.length
    · have h0 : ¬ (l.length : Int) < 1 := by omega
      have h60 : (60 : Int) < l.length := by omega
      have e5 : aof [] = ⟨0, 0, 0, 0, 0⟩ := rfl
      clear h h6
      go_enter Try.func3, Try.ntmps3
      go_wp2_with fail
      refine (alive_any _).mono ?_
      rintro e w1 ⟨rfl, h1⟩
      go_wp2_with fail
      refine (of_any _ [] _ (ints_nil _)).mono ?_
      rintro e w2 ⟨rfl, h2⟩
      rw [e5]
      simp only [AggV.val]
      go_wp2
      go_ret
      exact ⟨rfl, chain h1 h2⟩
    · have h0 : ¬ (l.length : Int) < 1 := by omega
      have h60 : ¬ (60 : Int) < l.length := by omega
      obtain ⟨k1, k2⟩ := aof_facts l (by omega)
      have K2 := Lib.hid (k2 (by intro hh; subst hh; simp at h))
      clear k2
      go_enter Try.func3, Try.ntmps3
      go_wp2_with fail
      refine (of_any _ l _ HV.out).mono ?_
      rintro e w1 ⟨rfl, h1⟩
      obtain ⟨A, hA⟩ : ∃ A, A = aof l := ⟨_, rfl⟩
      rw [← hA] at k1 K2 ⊢
      have HA := Lib.hid hA
      have K1 := Lib.hid k1
      clear hA k1
      simp only [AggV.val]
      go_wp2
      go_loopw [4, 5, 6] (fun le mo i wr => ∃ (k : Nat) (L M : Bool), k ≤ l.length ∧ i = .int .i64 k ∧ le = .bool L ∧ mo = .bool M ∧ Hid (L = (l.take k).any (· == A.mn)) ∧ Hid (M = (l.take k).any (· == A.mx)) ∧ Hid (wr.heap[w1.heap.size]? = some (.cells #[.int .i64 A.c, .int .i64 A.hi, .int .u64 A.lo, .int .i64 A.mn, .int .i64 A.mx] 26)) ∧ Below w.heap.size w wr) (fun _ _ i _ => l.length - (intOf i).toNat)
      case atStart => exact ⟨0, false, false, Nat.zero_le _, rfl, rfl, rfl, rfl, rfl, Lib.hid (heap_alloc_new _ _), bel_alloc h1 h1.size⟩
      case round =>
        obtain ⟨k, L, M, hk, rfl, rfl, rfl, HL, HM, HB, hnx⟩ := hrel
        by_cases hlt : k < l.length
        · obtain ⟨b, o, rfl, hbw, hcl⟩ := HC.out (by intro h; simp [h] at hlt)
          have hx := hcl k hlt
          have hxr := (hnx.cell (p := ⟨b, o + k, none⟩) hbw).trans hx
          have hm := K2.out.2.2 (l.getD k 0) (by simp [hlt])
          have HLs := Lib.hid (any_snoc l k A.mn hlt)
          have HMs := Lib.hid (any_snoc l k A.mx hlt)
          obtain ⟨x, hxe⟩ : ∃ x, x = l.getD k 0 := ⟨_, rfl⟩
          rw [← hxe] at hxr hm HLs HMs
          have HX := Lib.hid hxe
          obtain ⟨c0, c1, c2, c3, c4⟩ := agg_cells HB.out
          have m1 : decide (x < A.mn) = false := by simp; omega
          have m2 : decide (A.mx < x) = false := by simp; omega
          clear hx hxe hcl hm c0 c1 c2
          cases L <;> cases M
          all_goals
            go_wp2_with fail
            refine wp_region_quiet_lit (by kernel_rfl) (by kernel_rfl) ?_; (repeat (first | go_big_quiet_step (fail) | quiet_step (fail))); refine wpQuiet_nil ?_; intro _ hw'; obtain ⟨nq, hw''⟩ := hw'; subst hw''
            go_wp2_with fail
            refine wp_region_quiet_lit (by kernel_rfl) (by kernel_rfl) ?_; (repeat (first | go_big_quiet_step (fail) | quiet_step (fail))); refine wpQuiet_nil ?_; intro _ hw'; obtain ⟨nq, hw''⟩ := hw'; subst hw''
            go_wp2_with fail
            refine wp_region_quiet_lit (by kernel_rfl) (by kernel_rfl) ?_; (repeat (first | go_big_quiet_step (fail) | quiet_step (fail))); refine wpQuiet_nil ?_; intro _ hw'; obtain ⟨nq, hw''⟩ := hw'; subst hw''
            go_wp2
            go_roundw
            case rel => exact ⟨k + 1, _, _, by omega, by go_num, rfl, rfl, Lib.hid (by rw [HLs.out, ← HL.out]; simp), Lib.hid (by rw [HMs.out, ← HM.out]; simp), HB, (by first | exact hnx | exact bel_drewN hnx _ | exact bel_drewN (bel_drewN hnx _) _ | exact bel_drewN (bel_drewN (bel_drewN hnx _) _) _)⟩
            case measure => simp [intOf]; omega
        · have hkl : k = l.length := by omega
          subst hkl
          have hL : L = true := by
            rw [HL.out, List.take_length, List.any_eq_true]; exact ⟨_, K2.out.1, by simp⟩
          have hM : M = true := by
            rw [HM.out, List.take_length, List.any_eq_true]; exact ⟨_, K2.out.2.1, by simp⟩
          subst hL hM
          obtain ⟨c0, c1, c2, c3, c4⟩ := agg_cells HB.out
          have hlt2 := heap_lt HB.out
          have hcc : (A.c == (l.length : Int)) = true := by rw [K1.out]; simp
          have hvd : A.valid = true := by
            have := K2.out.2.2 _ K2.out.1
            simp only [AggV.valid, decide_eq_true_eq]; rw [K1.out]; omega
          have HVD := Lib.hid hvd
          clear hlt hvd
          go_wp2_with fail
          refine (alive_any _).mono ?_
          rintro e w2 ⟨rfl, h2⟩
          have hB2 := heap_step HB.out h2
          clear c0 c1 c2 c3 c4
          obtain ⟨c0, c1, c2, c3, c4⟩ := agg_cells hB2
          clear hB2
          go_wp2_with fail
          refine (valid_val A _).mono ?_
          rintro e w3 ⟨rfl, h3⟩
          rw [HVD.out]
          go_wp2
          go_ret
          exact ⟨rfl, chain hnx (chain h2 h3)⟩
end Go.Proofs.Ytagpamgdgcghfaa
