/-
  The walk of the law AggBack.
-/
import Derived.Test.YtagpamgdgcghfaaAggPut
import Derived.Test.YtagpamgdgcghfaaAggAlive
namespace Go.Proofs.Ytagpamgdgcghfaa
open Go.RowKit
set_option linter.unusedVariables false
set_option linter.unusedSimpArgs false

theorem leVal_low : ∀ (n : Nat) (v : Int), 0 ≤ v → v < 256 ^ n → leVal (lowBytes v n) = v
  | 0, v, h0, h1 => by simp at h1; simp [lowBytes, leVal]; omega
  | n + 1, v, h0, h1 => by
    have h2 : v < 256 * 256 ^ n := by rw [Int.mul_comm, ← Int.pow_succ]; exact h1
    have h3 : v / 256 < 256 ^ n := by omega
    have h4 : (v % 256).toNat < 256 := by omega
    simp only [lowBytes, leVal, leVal_low n (v / 256) (by omega) h3, UInt8.toNat_ofNat', Nat.mod_eq_of_lt h4]
    omega
theorem rd8_app (l1 l2 : List UInt8) (v : Int) (k : Nat) (hk : l1.length = k) (h0 : 0 ≤ v) (h1 : v ≤ 18446744073709551615) : rd8 (l1 ++ (lowBytes v 8 ++ l2)) k = v := by
  subst hk
  unfold rd8
  rw [List.drop_left, List.take_left' (lowBytes_length 8 v)]
  exact leVal_low 8 v h0 (by have : (256 : Int) ^ 8 = 18446744073709551616 := by decide
                             omega)
theorem i64of_u64of (x : Int) (h0 : -9223372036854775808 ≤ x) (h1 : x ≤ 9223372036854775807) : i64of (u64of x) = x := by unfold i64of u64of; split <;> omega
theorem putBytes_eq (A : AggV) : putBytes A = lowBytes (u64of A.c) 8 ++ (lowBytes (u64of A.hi) 8 ++ (lowBytes A.lo 8 ++ (lowBytes (u64of A.mn) 8 ++ lowBytes (u64of A.mx) 8))) := by
  simp [putBytes, intBytes, wordBytes]
theorem putBytes_length (A : AggV) : (putBytes A).length = 40 := by simp [putBytes_eq, lowBytes_length]
theorem get_put (A : AggV) (h : A.ok) : getAgg (putBytes A) = A := by
  obtain ⟨c, hi, lo, mn, mx⟩ := A
  unfold AggV.ok at h
  dsimp only at h
  obtain ⟨h1, h2, h3, h4, h5⟩ := h
  have u := fun x : Int => show 0 ≤ u64of x ∧ u64of x ≤ 18446744073709551615 by unfold u64of; omega
  have e0 : rd8 (putBytes ⟨c, hi, lo, mn, mx⟩) 0 = u64of c := by rw [putBytes_eq]; exact rd8_app [] _ _ 0 rfl (u _).1 (u _).2
  have e1 : rd8 (putBytes ⟨c, hi, lo, mn, mx⟩) 8 = u64of hi := by rw [putBytes_eq]; exact rd8_app _ _ _ 8 (lowBytes_length _ _) (u _).1 (u _).2
  have e2 : rd8 (putBytes ⟨c, hi, lo, mn, mx⟩) 16 = lo := by
    rw [putBytes_eq, ← List.append_assoc]; exact rd8_app _ _ _ 16 (by simp [lowBytes_length]) h3.1 h3.2
  have e3 : rd8 (putBytes ⟨c, hi, lo, mn, mx⟩) 24 = u64of mn := by
    rw [putBytes_eq, ← List.append_assoc, ← List.append_assoc]; exact rd8_app _ _ _ 24 (by simp [lowBytes_length]) (u _).1 (u _).2
  have e4 : rd8 (putBytes ⟨c, hi, lo, mn, mx⟩) 32 = u64of mx := by
    have := rd8_app (lowBytes (u64of c) 8 ++ lowBytes (u64of hi) 8 ++ lowBytes lo 8 ++ lowBytes (u64of mn) 8) [] (u64of mx) 32 (by simp [lowBytes_length]) (u _).1 (u _).2
    rw [List.append_nil] at this
    rw [putBytes_eq, ← List.append_assoc, ← List.append_assoc, ← List.append_assoc]; exact this
  unfold getAgg
  rw [e0, e1, e2, e3, e4, i64of_u64of c h1.1 h1.2, i64of_u64of hi h2.1 h2.2, i64of_u64of mn h4.1 h4.2, i64of_u64of mx h5.1 h5.2]
theorem getRes_put (A : AggV) (h : A.ok) (hv : A.valid = true) : getRes (strOf (putBytes A)).data.toList = .tuple #[A.val, .int .i64 0] := by
  have : (strOf (putBytes A)).data.toList = putBytes A := by simp [strOf]
  rw [this]; unfold getRes
  rw [get_put A h, if_pos hv, if_pos hv]
theorem strOf_size (l : List UInt8) : (strOf l).size = l.length := rfl

set_option maxRecDepth 100000 in
set_option maxHeartbeats 2000000 in
theorem walkAggBackNone (A : AggV) (cut : Int) (w : World) (hv : A.valid = false) : Calls Try.prog 8 #[A.val, .int .i64 cut] w (BoolPost w true) := by
  simp only [AggV.val]
  go_enter Try.func8, Try.ntmps8
  go_wp2_with fail
  refine (put_none A _ hv).mono ?_
  rintro e w1 ⟨rfl, hb1⟩
  have ha1 := heap_step (heap_alloc_new w (.cells #[.int .i64 A.c, .int .i64 A.hi, .int .u64 A.lo, .int .i64 A.mn, .int .i64 A.mx] 26)) hb1
  have hbel1 : Below w.heap.size w w1 := chain (bel_new _ _) hb1
  have HA1 := Lib.hid ha1
  have HB1 := Lib.hid hbel1
  clear ha1 hbel1 hb1
  go_wp2_with fail
  refine (alive_any _).mono ?_
  rintro e w2 ⟨rfl, hb2⟩
  obtain ⟨c0, c1, c2, c3, c4⟩ := agg_cells (heap_step HA1.out hb2)
  go_wp2_with fail
  refine (valid_val A _).mono ?_
  rintro e w3 ⟨rfl, hb3⟩
  rw [hv]
  go_wp2
  go_ret
  exact ⟨rfl, chain HB1.out (chain hb2 hb3)⟩

set_option maxRecDepth 100000 in
set_option maxHeartbeats 2000000 in
theorem walkAggBackSome (A : AggV) (cut : Int) (w : World) (hv : A.valid = true) (hok : A.ok) (hc : -9223372036854775808 ≤ cut ∧ cut ≤ 9223372036854775807) : Calls Try.prog 8 #[A.val, .int .i64 cut] w (BoolPost w true) := by
  have HOK := Lib.hid hok
  clear hok
  have R := Lib.hid (getRes_put A HOK.out hv)
  simp only [AggV.val]
  go_enter Try.func8, Try.ntmps8
  go_wp2_with fail
  refine (put_some A _ hv HOK.out).mono ?_
  rintro e w1 ⟨rfl, hb1⟩
  have ha1 := heap_step (heap_alloc_new w (.cells #[.int .i64 A.c, .int .i64 A.hi, .int .u64 A.lo, .int .i64 A.mn, .int .i64 A.mx] 26)) hb1
  have hbel1 : Below w.heap.size w w1 := chain (bel_new _ _) hb1
  have HA1 := Lib.hid ha1
  have HB1 := Lib.hid hbel1
  clear ha1 hbel1 hb1
  obtain ⟨s, hs⟩ : ∃ s, s = strOf (putBytes A) := ⟨_, rfl⟩
  rw [← hs] at R ⊢
  have hsz : s.size = 40 := by rw [hs, strOf_size, putBytes_length]
  have HSZ := Lib.hid hsz
  have hlz : (s.size : Int) = 40 := by omega
  clear hs hsz hv
  go_wp2_with fail
  refine (get_long s _ HSZ.out).mono ?_
  rintro e w2 ⟨rfl, hb2⟩
  rw [R.out]
  simp only [AggV.val]
  have HA2 := Lib.hid (heap_step HA1.out hb2)
  have HB2 := Lib.hid (chain HB1.out hb2)
  clear hb2
  go_wp2_with fail
  all_goals
    refine (get_short _ _ (by simp <;> omega) (by simp <;> omega)).mono ?_
    rintro e w3 ⟨rfl, hb3⟩
    have ha3 := heap_step ((Below.heap_alloc w2 (.cells #[.int .i64 A.c, .int .i64 A.hi, .int .u64 A.lo, .int .i64 A.mn, .int .i64 A.mx] 26) _ (heap_lt HA2.out)).trans HA2.out) hb3
    have hd3 := heap_step (heap_alloc_new w2 (.cells #[.int .i64 A.c, .int .i64 A.hi, .int .u64 A.lo, .int .i64 A.mn, .int .i64 A.mx] 26)) hb3
    have hbel3 := chain (chain HB2.out (bel_new w2 (.cells #[.int .i64 A.c, .int .i64 A.hi, .int .u64 A.lo, .int .i64 A.mn, .int .i64 A.mx] 26))) hb3
    have ha4 := heap_step ha3 (bel_new w3 (.cells #[.int .i64 AggV.zero.c, .int .i64 AggV.zero.hi, .int .u64 AggV.zero.lo, .int .i64 AggV.zero.mn, .int .i64 AggV.zero.mx] 26))
    have hd4 := heap_step hd3 (bel_new w3 (.cells #[.int .i64 AggV.zero.c, .int .i64 AggV.zero.hi, .int .u64 AggV.zero.lo, .int .i64 AggV.zero.mn, .int .i64 AggV.zero.mx] 26))
    have HB4 := Lib.hid (chain hbel3 (bel_new w3 (.cells #[.int .i64 AggV.zero.c, .int .i64 AggV.zero.hi, .int .u64 AggV.zero.lo, .int .i64 AggV.zero.mn, .int .i64 AggV.zero.mx] 26)))
    have HA4 := Lib.hid ha4
    have HD4 := Lib.hid hd4
    clear ha3 hd3 hbel3 ha4 hd4 hb3
    simp only [AggV.val, AggV.zero] at *
    go_wp2_with fail
    refine (alive_any _).mono ?_
    rintro e w4 ⟨rfl, hb4⟩
    obtain ⟨c0, c1, c2, c3, c4⟩ := agg_cells (heap_step HA4.out hb4)
    obtain ⟨d0, d1, d2, d3, d4⟩ := agg_cells (heap_step HD4.out hb4)
    go_wp2
    go_ret
    exact ⟨rfl, chain HB4.out hb4⟩

theorem walkAggBack (A : AggV) (cut : Int) (hcut : (Lit.int .i64 cut).wf = true) (w : World) (hok : A.ok) : Calls Try.prog 8 #[A.val, .int .i64 cut] w (BoolPost w true) := by
  cases h : A.valid
  · exact walkAggBackNone A cut w h
  · exact walkAggBackSome A cut w h hok (wf64' hcut)
end Go.Proofs.Ytagpamgdgcghfaa
