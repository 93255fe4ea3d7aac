/-
  The contract of sedimentlaw3.alive: true.
-/
import Derived.Test.YtagpamgdgcghfaaAggSum
namespace Go.Proofs.Ytagpamgdgcghfaa
open Go.RowKit
set_option linter.unusedVariables false
set_option linter.unusedSimpArgs false

set_option maxRecDepth 100000 in
set_option maxHeartbeats 1000000 in
theorem alive_any (w : World) : Calls Try.prog 10 #[] w (BoolPost w true) := by
  have e1 : aof [9223372036854775807, 1] = ⟨2, 0, 9223372036854775808, 1, 9223372036854775807⟩ := by simp [aof, aboth, aone, AggV.zero, w64] <;> omega
  have e2 : aof [5, -7] = ⟨2, -1, 18446744073709551614, -7, 5⟩ := by simp [aof, aboth, aone, AggV.zero, w64] <;> omega
  have e3 : aof [3, 4] = ⟨2, 0, 7, 3, 4⟩ := by simp [aof, aboth, aone, AggV.zero, w64] <;> omega
  have e4 : aof [1] = ⟨1, 0, 1, 1, 1⟩ := by simp [aof, aboth, aone, AggV.zero, w64] <;> omega
  have e5 : aof [] = ⟨0, 0, 0, 0, 0⟩ := rfl
  have E1 := Lib.hid e1
  have E2 := Lib.hid e2
  have E3 := Lib.hid e3
  have E4 := Lib.hid e4
  have E5 := Lib.hid e5
  clear e1 e2 e3 e4 e5
  have k0 := field0
  go_enter Try.func10, Try.ntmps10
  go_wp2_with fail
  refine (of_any _ [9223372036854775807, 1] _ (ints_new (by simp) rfl (by simp) (by simp))).mono ?_
  rintro e w1 ⟨rfl, h1⟩
  rw [E1.out]
  have s1 : asum ⟨2, 0, 9223372036854775808, 1, 9223372036854775807⟩ = (9223372036854775807, true) := by simp [asum]
  go_wp2_with fail
  refine (sum_any _ _ (by simp [AggV.ok])).mono ?_
  rintro e w2 ⟨rfl, h2⟩
  rw [s1]
  go_wp2_with fail
  refine (of_any _ [5, -7] _ (ints_new (by simp) rfl (by simp) (by simp))).mono ?_
  rintro e w3 ⟨rfl, h3⟩
  rw [E2.out]
  have s2 : asum ⟨2, -1, 18446744073709551614, -7, 5⟩ = (-2, false) := by simp [asum, w64]
  go_wp2_with fail
  refine (sum_any _ _ (by simp [AggV.ok])).mono ?_
  rintro e w4 ⟨rfl, h4⟩
  rw [s2]
  go_wp2_with fail
  refine (of_any _ [3, 4] _ (ints_new (by simp) rfl (by simp) (by simp))).mono ?_
  rintro e w5 ⟨rfl, h5⟩
  rw [E3.out]
  simp only [AggV.val]
  go_wp2_with fail
  refine (of_any _ [1] _ (ints_new (by simp) rfl (by simp) (by simp))).mono ?_
  rintro e w6 ⟨rfl, h6⟩
  rw [E4.out]
  have v1 : AggV.valid ⟨1, 0, 1, 1, 1⟩ = true := by simp [AggV.valid]
  go_wp2_with fail
  refine (valid_val _ _).mono ?_
  rintro e w7 ⟨rfl, h7⟩
  rw [v1]
  go_wp2_with fail
  refine (of_any _ [] _ (ints_nil _)).mono ?_
  rintro e w8 ⟨rfl, h8⟩
  rw [E5.out]
  have v2 : AggV.valid ⟨0, 0, 0, 0, 0⟩ = false := by simp [AggV.valid]
  go_wp2_with fail
  refine (valid_val _ _).mono ?_
  rintro e w9 ⟨rfl, h9⟩
  rw [v2]
  go_wp2
  go_ret
  refine ⟨rfl, ?_⟩
  have a1 := chain (bel_alloc (o := .cells #[.int .i64 9223372036854775807, .int .i64 1] 3) (Below.refl _ w) (Nat.le_refl _)) h1
  have a2 := chain a1 (chain h2 (chain (bel_alloc (Below.refl _ _) (Nat.le_refl _)) (chain h3 (chain h4 (chain (bel_alloc (Below.refl _ _) (Nat.le_refl _)) (chain h5 (chain (bel_alloc (Below.refl _ _) (Nat.le_refl _)) (chain h6 (chain h7 (chain h8 h9))))))))))
  exact a2

end Go.Proofs.Ytagpamgdgcghfaa
