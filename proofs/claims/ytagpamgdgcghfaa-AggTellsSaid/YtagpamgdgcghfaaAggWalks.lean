/-
  The contracts of the agg package's functions.
-/
import Derived.Test.YtagpamgdgcghfaaKit
import Derived.Test.YtagpamgdgcghfaaAggPlain
namespace Go.Proofs.Ytagpamgdgcghfaa
open Go.RowKit
set_option linter.unusedVariables false
set_option linter.unusedSimpArgs false

def AggV.val (a : AggV) : Value := .agg #[.int .i64 a.c, .int .i64 a.hi, .int .u64 a.lo, .int .i64 a.mn, .int .i64 a.mx]

set_option maxHeartbeats 400000 in
theorem valid_any (c hi lo mn mx : Int) (w : World) :
    Calls Try.prog 12 #[.agg #[.int .i64 c, .int .i64 hi, .int .u64 lo, .int .i64 mn, .int .i64 mx]] w (RetB w (.bool (AggV.valid ⟨c, hi, lo, mn, mx⟩))) := by
  have R : ∀ b, b = AggV.valid ⟨c, hi, lo, mn, mx⟩ → RetB w (.bool (AggV.valid ⟨c, hi, lo, mn, mx⟩)) (.returned (.bool b)) (w.alloc (.cells #[.int .i64 c, .int .i64 hi, .int .u64 lo, .int .i64 mn, .int .i64 mx] 26)) := fun b hb => ⟨by rw [hb], bel_alloc (Below.refl _ _) (Nat.le_refl _)⟩
  have H := Lib.hid R; clear R
  by_cases h1 : 1 ≤ c
  · by_cases h2 : c ≤ 4611686018427387904
    · by_cases h3 : mn ≤ mx
      · go_enter Try.func12, Try.ntmps12
        go_wp2
        go_ret
        refine H.out _ ?_
        simp [AggV.valid]; omega
      · go_enter Try.func12, Try.ntmps12
        go_wp2
        go_ret
        refine H.out _ ?_
        simp [AggV.valid]; omega
    · go_enter Try.func12, Try.ntmps12
      go_wp2
      all_goals go_ret
      all_goals refine H.out _ ?_
      all_goals simp [AggV.valid]; omega
  · go_enter Try.func12, Try.ntmps12
    go_wp2
    all_goals go_ret
    all_goals refine H.out _ ?_
    all_goals simp [AggV.valid]; omega

theorem ret_agg {c hi lo mn mx : Int} (a : AggV) (h1 : c = a.c) (h2 : hi = a.hi) (h3 : lo = a.lo) (h4 : mn = a.mn) (h5 : mx = a.mx) :
    Ending.returned (.agg #[.int .i64 c, .int .i64 hi, .int .u64 lo, .int .i64 mn, .int .i64 mx]) = .returned a.val := by subst h1 h2 h3 h4 h5; rfl

set_option maxHeartbeats 400000 in
theorem one_any (v : Int) (w : World) (h : -9223372036854775808 ≤ v ∧ v ≤ 9223372036854775807) :
    Calls Try.prog 30 #[.int .i64 v] w (RetB w (aone v).val) := by
  go_enter Try.func30, Try.ntmps30
  go_wp2
  refine bodyPost_ret (v := .agg #[.int .i64 1, .int .i64 (v / 9223372036854775808), .int .u64 (IntKind.u64.wrap v), .int .i64 v, .int .i64 v]) (by simp [results, Try.results30, go_sem]) rfl ⟨ret_agg _ rfl ?_ ?_ rfl rfl, bel_alloc (Below.refl _ _) (Nat.le_refl _)⟩
  · unfold aone; dsimp only; split <;> omega
  · unfold aone; dsimp only; simp [IntKind.wrap, IntKind.bits, IntKind.signed]

theorem add64_runs (x y c : Int) (hx : 0 ≤ x) (hy : 0 ≤ y) (hc0 : 0 ≤ c) (hc : c ≤ 1) (w : World) :
    (callFunc 42 #[.int .u64 x, .int .u64 y, .int .u64 c]).run Try.prog w = .ok (.value (.tuple #[.int .u64 ((x + y + c) % 18446744073709551616), .int .u64 ((x + y + c) / 18446744073709551616)])) w := by
  rw [run_callFunc_extern (e := add64Entry) Try.func42 (by kernel_rfl) (by kernel_rfl) (by kernel_rfl) (by kernel_rfl), run_add64 x y c hx hy hc0 hc w]
  rfl

theorem both_plain (c1 h1 l1 n1 x1 c2 h2 l2 n2 x2 : Int) (hb : AggV.ok ⟨c2, h2, l2, n2, x2⟩) (h : ¬ c1 = 0) :
    aboth ⟨c1, h1, l1, n1, x1⟩ ⟨c2, h2, l2, n2, x2⟩ = ⟨if c1 < wrap64 (4611686018427387904 - c2) then wrap64 (c1 + c2) else 4611686018427387904,
      wrap64 ((IntKind.u64.wrap h1 + IntKind.u64.wrap h2 + (l1 + l2) / 18446744073709551616) % 18446744073709551616), (l1 + l2) % 18446744073709551616, min n1 n2, max x1 x2⟩ := by
  unfold aboth; rw [if_neg h]
  simp only [AggV.mk.injEq]
  refine ⟨by unfold w64 wrap64; rfl, ?_, trivial, trivial, trivial⟩
  simp [IntKind.wrap, IntKind.bits, IntKind.signed, w64, wrap64]
  omega

set_option maxHeartbeats 4000000 in
theorem both_any (c1 h1 l1 n1 x1 c2 h2 l2 n2 x2 : Int) (w : World) (ha : AggV.ok ⟨c1, h1, l1, n1, x1⟩) (hb : AggV.ok ⟨c2, h2, l2, n2, x2⟩) :
    Calls Try.prog 29 #[.agg #[.int .i64 c1, .int .i64 h1, .int .u64 l1, .int .i64 n1, .int .i64 x1], .agg #[.int .i64 c2, .int .i64 h2, .int .u64 l2, .int .i64 n2, .int .i64 x2]] w
      (RetB w (aboth ⟨c1, h1, l1, n1, x1⟩ ⟨c2, h2, l2, n2, x2⟩).val) := by
  by_cases hc : c1 = 0
  · have R : Hid (aboth ⟨c1, h1, l1, n1, x1⟩ ⟨c2, h2, l2, n2, x2⟩ = ⟨c2, h2, l2, n2, x2⟩) := Lib.hid (by unfold aboth; rw [if_pos hc])
    have hc' : (c1 == 0) = true := by simpa using hc
    clear ha hb hc
    go_enter Try.func29, Try.ntmps29
    go_wp2
    rw [R.out]
    refine bodyPost_ret (v := .agg #[.int .i64 c2, .int .i64 h2, .int .u64 l2, .int .i64 n2, .int .i64 x2]) (by simp [results, Try.results29, go_sem]) rfl ⟨rfl, bel_alloc (bel_alloc (bel_alloc (Below.refl _ _) (Nat.le_refl _)) (by simp <;> omega)) (by simp <;> omega)⟩
  · have R := Lib.hid (both_plain c1 h1 l1 n1 x1 c2 h2 l2 n2 x2 hb hc)
    unfold AggV.ok at ha hb
    dsimp only at ha hb
    obtain ⟨a1, a2, a3, a4, a5⟩ := ha
    obtain ⟨b1, b2, b3, b4, b5⟩ := hb
    have hc' : (c1 == 0) = false := by simpa using hc
    have k1 := fun w => add64_runs l1 l2 0 a3.1 b3.1 (by omega) (by omega) w
    have k2 := fun w => add64_runs (IntKind.u64.wrap h1) (IntKind.u64.wrap h2) ((l1 + l2) / 18446744073709551616) (by simp [IntKind.wrap, IntKind.bits, IntKind.signed]; omega) (by simp [IntKind.wrap, IntKind.bits, IntKind.signed]; omega) (by omega) (by omega) w
    clear hc
    rw [R.out]
    by_cases hlt : c1 < wrap64 (4611686018427387904 - c2)
    · rw [if_pos hlt]
      by_cases hn : n2 < n1
      · have hm : min n1 n2 = n2 := by omega
        rw [hm]; clear hm
        by_cases hx : x2 ≤ x1
        · have hm : max x1 x2 = x1 := by omega
          rw [hm]; clear hm
          go_enter Try.func29, Try.ntmps29
          go_wp2
          refine bodyPost_ret (v := .agg #[.int .i64 (wrap64 (c1 + c2)), .int .i64 (wrap64 ((IntKind.u64.wrap h1 + IntKind.u64.wrap h2 + (l1 + l2) / 18446744073709551616) % 18446744073709551616)), .int .u64 ((l1 + l2) % 18446744073709551616), .int .i64 n2, .int .i64 x1]) (by simp [results, Try.results29, go_sem]) rfl ⟨rfl, bel_alloc (bel_alloc (bel_alloc (Below.refl _ _) (Nat.le_refl _)) (by simp <;> omega)) (by simp <;> omega)⟩
        · have hm : max x1 x2 = x2 := by omega
          rw [hm]; clear hm
          go_enter Try.func29, Try.ntmps29
          go_wp2
          refine bodyPost_ret (v := .agg #[.int .i64 (wrap64 (c1 + c2)), .int .i64 (wrap64 ((IntKind.u64.wrap h1 + IntKind.u64.wrap h2 + (l1 + l2) / 18446744073709551616) % 18446744073709551616)), .int .u64 ((l1 + l2) % 18446744073709551616), .int .i64 n2, .int .i64 x2]) (by simp [results, Try.results29, go_sem]) rfl ⟨rfl, bel_alloc (bel_alloc (bel_alloc (Below.refl _ _) (Nat.le_refl _)) (by simp <;> omega)) (by simp <;> omega)⟩
      · have hm : min n1 n2 = n1 := by omega
        rw [hm]; clear hm
        by_cases hx : x2 ≤ x1
        · have hm : max x1 x2 = x1 := by omega
          rw [hm]; clear hm
          go_enter Try.func29, Try.ntmps29
          go_wp2
          refine bodyPost_ret (v := .agg #[.int .i64 (wrap64 (c1 + c2)), .int .i64 (wrap64 ((IntKind.u64.wrap h1 + IntKind.u64.wrap h2 + (l1 + l2) / 18446744073709551616) % 18446744073709551616)), .int .u64 ((l1 + l2) % 18446744073709551616), .int .i64 n1, .int .i64 x1]) (by simp [results, Try.results29, go_sem]) rfl ⟨rfl, bel_alloc (bel_alloc (bel_alloc (Below.refl _ _) (Nat.le_refl _)) (by simp <;> omega)) (by simp <;> omega)⟩
        · have hm : max x1 x2 = x2 := by omega
          rw [hm]; clear hm
          go_enter Try.func29, Try.ntmps29
          go_wp2
          refine bodyPost_ret (v := .agg #[.int .i64 (wrap64 (c1 + c2)), .int .i64 (wrap64 ((IntKind.u64.wrap h1 + IntKind.u64.wrap h2 + (l1 + l2) / 18446744073709551616) % 18446744073709551616)), .int .u64 ((l1 + l2) % 18446744073709551616), .int .i64 n1, .int .i64 x2]) (by simp [results, Try.results29, go_sem]) rfl ⟨rfl, bel_alloc (bel_alloc (bel_alloc (Below.refl _ _) (Nat.le_refl _)) (by simp <;> omega)) (by simp <;> omega)⟩
    · rw [if_neg hlt]
      by_cases hn : n2 < n1
      · have hm : min n1 n2 = n2 := by omega
        rw [hm]; clear hm
        by_cases hx : x2 ≤ x1
        · have hm : max x1 x2 = x1 := by omega
          rw [hm]; clear hm
          go_enter Try.func29, Try.ntmps29
          go_wp2
          refine bodyPost_ret (v := .agg #[.int .i64 (4611686018427387904), .int .i64 (wrap64 ((IntKind.u64.wrap h1 + IntKind.u64.wrap h2 + (l1 + l2) / 18446744073709551616) % 18446744073709551616)), .int .u64 ((l1 + l2) % 18446744073709551616), .int .i64 n2, .int .i64 x1]) (by simp [results, Try.results29, go_sem]) rfl ⟨rfl, bel_alloc (bel_alloc (bel_alloc (Below.refl _ _) (Nat.le_refl _)) (by simp <;> omega)) (by simp <;> omega)⟩
        · have hm : max x1 x2 = x2 := by omega
          rw [hm]; clear hm
          go_enter Try.func29, Try.ntmps29
          go_wp2
          refine bodyPost_ret (v := .agg #[.int .i64 (4611686018427387904), .int .i64 (wrap64 ((IntKind.u64.wrap h1 + IntKind.u64.wrap h2 + (l1 + l2) / 18446744073709551616) % 18446744073709551616)), .int .u64 ((l1 + l2) % 18446744073709551616), .int .i64 n2, .int .i64 x2]) (by simp [results, Try.results29, go_sem]) rfl ⟨rfl, bel_alloc (bel_alloc (bel_alloc (Below.refl _ _) (Nat.le_refl _)) (by simp <;> omega)) (by simp <;> omega)⟩
      · have hm : min n1 n2 = n1 := by omega
        rw [hm]; clear hm
        by_cases hx : x2 ≤ x1
        · have hm : max x1 x2 = x1 := by omega
          rw [hm]; clear hm
          go_enter Try.func29, Try.ntmps29
          go_wp2
          refine bodyPost_ret (v := .agg #[.int .i64 (4611686018427387904), .int .i64 (wrap64 ((IntKind.u64.wrap h1 + IntKind.u64.wrap h2 + (l1 + l2) / 18446744073709551616) % 18446744073709551616)), .int .u64 ((l1 + l2) % 18446744073709551616), .int .i64 n1, .int .i64 x1]) (by simp [results, Try.results29, go_sem]) rfl ⟨rfl, bel_alloc (bel_alloc (bel_alloc (Below.refl _ _) (Nat.le_refl _)) (by simp <;> omega)) (by simp <;> omega)⟩
        · have hm : max x1 x2 = x2 := by omega
          rw [hm]; clear hm
          go_enter Try.func29, Try.ntmps29
          go_wp2
          refine bodyPost_ret (v := .agg #[.int .i64 (4611686018427387904), .int .i64 (wrap64 ((IntKind.u64.wrap h1 + IntKind.u64.wrap h2 + (l1 + l2) / 18446744073709551616) % 18446744073709551616)), .int .u64 ((l1 + l2) % 18446744073709551616), .int .i64 n1, .int .i64 x2]) (by simp [results, Try.results29, go_sem]) rfl ⟨rfl, bel_alloc (bel_alloc (bel_alloc (Below.refl _ _) (Nat.le_refl _)) (by simp <;> omega)) (by simp <;> omega)⟩

theorem field0 (a b c d e : Value) (w : World) : (Instr.field 26 (.agg #[a, b, c, d, e]) 0).run Try.prog w = .ok a w := by kernel_rfl
theorem field3 (a b c d e : Value) (w : World) : (Instr.field 26 (.agg #[a, b, c, d, e]) 3).run Try.prog w = .ok d w := by kernel_rfl
theorem field4 (a b c d e : Value) (w : World) : (Instr.field 26 (.agg #[a, b, c, d, e]) 4).run Try.prog w = .ok e w := by kernel_rfl

theorem valid_val (a : AggV) (w : World) : Calls Try.prog 12 #[a.val] w (RetB w (.bool a.valid)) := valid_any a.c a.hi a.lo a.mn a.mx w
theorem both_val (a b : AggV) (w : World) (ha : a.ok) (hb : b.ok) : Calls Try.prog 29 #[a.val, b.val] w (RetB w (aboth a b).val) :=
  both_any a.c a.hi a.lo a.mn a.mx b.c b.hi b.lo b.mn b.mx w ha hb

end Go.Proofs.Ytagpamgdgcghfaa
