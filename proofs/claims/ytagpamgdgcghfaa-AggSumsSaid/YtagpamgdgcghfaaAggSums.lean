/-
  The walk of the law AggSums.
-/
import Derived.Test.YtagpamgdgcghfaaAggLaws2
import Derived.Test.YtagpamgdgcghfaaAggAlg
import Derived.Test.YtagpamgdgcghfaaRegion
namespace Go.Proofs.Ytagpamgdgcghfaa
open Go.RowKit
set_option linter.unusedVariables false
set_option linter.unusedSimpArgs false

def isum (l : List Int) : Int := l.foldl (· + ·) 0
theorem isum_snoc (l : List Int) (x : Int) : isum (l ++ [x]) = isum l + x := by simp [isum]

theorem isum_le (l : List Int) (m : Int) (h : ∀ x ∈ l, x ≤ m) : isum l ≤ m * l.length := by
  induction l using snoc_ind with
  | h0 => simp [isum]
  | h1 l x ih =>
    have h1 := ih (fun y hy => h y (by simp [hy]))
    have h2 := h x (by simp)
    rw [isum_snoc, List.length_append, List.length_singleton]
    push_cast; rw [Int.mul_add, Int.mul_one]; omega
theorem isum_ge (l : List Int) (m : Int) (h : ∀ x ∈ l, m ≤ x) : m * l.length ≤ isum l := by
  induction l using snoc_ind with
  | h0 => simp [isum]
  | h1 l x ih =>
    have h1 := ih (fun y hy => h y (by simp [hy]))
    have h2 := h x (by simp)
    rw [isum_snoc, List.length_append, List.length_singleton]
    push_cast; rw [Int.mul_add, Int.mul_one]; omega
theorem isum_bd (l : List Int) (h : ∀ x ∈ l, -9223372036854775808 ≤ x ∧ x ≤ 9223372036854775807) : -9223372036854775808 * l.length ≤ isum l ∧ isum l ≤ 9223372036854775807 * l.length :=
  ⟨isum_ge l _ (fun x hx => (h x hx).1), isum_le l _ (fun x hx => (h x hx).2)⟩

/-- The sum of 128 bits is exact. -/
theorem aof_exact (l : List Int) (hl : l.length ≤ 1000) (h : ∀ x ∈ l, -9223372036854775808 ≤ x ∧ x ≤ 9223372036854775807) :
    (aof l).hi * 18446744073709551616 + (aof l).lo = isum l ∧ 0 ≤ (aof l).lo ∧ (aof l).lo ≤ 18446744073709551615 := by
  induction l using snoc_ind with
  | h0 => simp [isum, aof, AggV.zero]
  | h1 l x ih =>
    simp only [List.length_append, List.length_singleton] at hl
    have hl' : ∀ y ∈ l, -9223372036854775808 ≤ y ∧ y ≤ 9223372036854775807 := fun y hy => h y (by simp [hy])
    obtain ⟨i1, i2, i3⟩ := ih (by omega) hl'
    have hx := h x (by simp)
    have hb := isum_bd l hl'
    rw [aof_snoc, isum_snoc]
    have o1 : (aone x).hi = if x < 0 then -1 else 0 := rfl
    have o2 : (aone x).lo = x % 18446744073709551616 := rfl
    by_cases h0 : (aof l).c = 0
    · have hc := (aof_facts l (by omega)).1
      have : l = [] := List.eq_nil_of_length_eq_zero (by omega)
      subst this
      rw [show aof [] = AggV.zero from rfl, aboth_zero, o1, o2]
      simp only [isum, List.foldl_nil]
      split <;> omega
    · have e1 : (aboth (aof l) (aone x)).hi = w64 ((aof l).hi + (aone x).hi + ((aof l).lo + (aone x).lo) / 18446744073709551616) := by unfold aboth; rw [if_neg h0]
      have e2 : (aboth (aof l) (aone x)).lo = ((aof l).lo + (aone x).lo) % 18446744073709551616 := by unfold aboth; rw [if_neg h0]
      rw [e1, e2, o1, o2]
      unfold w64
      split <;> omega

theorem mean_in (s n lo hi : Int) (hn : 1 ≤ n) (h1 : lo * n ≤ s) (h2 : s ≤ hi * n) : lo ≤ s.tdiv n ∧ s.tdiv n ≤ hi := by
  by_cases hs : 0 ≤ s
  · rw [Int.tdiv_eq_ediv_of_nonneg hs]
    refine ⟨(Int.le_ediv_iff_mul_le (by omega)).2 h1, ?_⟩
    have := Int.ediv_le_ediv (show 0 < n by omega) h2
    rwa [Int.mul_ediv_cancel _ (by omega)] at this
  · have e : s.tdiv n = -((-s) / n) := by
      rw [← Int.tdiv_eq_ediv_of_nonneg (by omega), Int.neg_tdiv, Int.neg_neg]
    rw [e]
    have a1 : -hi ≤ (-s) / n := (Int.le_ediv_iff_mul_le (by omega)).2 (by rw [Int.neg_mul]; omega)
    have a2 : (-s) / n ≤ -lo := by
      have := Int.ediv_le_ediv (show 0 < n by omega) (show -s ≤ -lo * n by rw [Int.neg_mul]; omega)
      rwa [Int.mul_ediv_cancel _ (by omega)] at this
    omega

theorem u64_mod (y : Int) : IntKind.u64.wrap y = y % 18446744073709551616 := by simp [IntKind.wrap, IntKind.bits, IntKind.signed]

/-- What the law asks of the sum, once hi and lo are known. -/
theorem sums_facts (l : List Int) (hl : l.length ≤ 60) (h : ∀ x ∈ l, -9223372036854775808 ≤ x ∧ x ≤ 9223372036854775807) (hi lo : Int) (e : hi * 18446744073709551616 + lo = isum l) (h0 : 0 ≤ lo) (h1 : lo ≤ 18446744073709551615) :
    (aof l).hi = hi ∧ (aof l).lo = lo ∧ -61 ≤ hi ∧ hi ≤ 61 := by
  obtain ⟨i1, i2, i3⟩ := aof_exact l (by omega) h
  have hb := isum_bd l h
  omega

theorem mean_facts (l : List Int) (hl : l.length ≤ 60) (hne : l ≠ []) (h : ∀ x ∈ l, -9223372036854775808 ≤ x ∧ x ≤ 9223372036854775807) (ho : (asum (aof l)).2 = false) :
    (aof l).mn ≤ amean (aof l) ∧ amean (aof l) ≤ (aof l).mx := by
  obtain ⟨c1, c2⟩ := aof_facts l (by omega)
  obtain ⟨m1, m2, m3⟩ := c2 hne
  obtain ⟨i1, i2, i3⟩ := aof_exact l (by omega) h
  have hpos : 0 < l.length := List.length_pos_iff.2 hne
  have hv : (aof l).valid = true := by
    rw [valid_iff, c1]; have := m3 _ m1; omega
  have hs : (asum (aof l)).1 = isum l := by
    unfold asum at ho ⊢
    by_cases q : (aof l).hi = (if (aof l).lo < 9223372036854775808 then 0 else -1)
    · rw [if_pos q]
      show w64 (aof l).lo = isum l
      unfold w64
      split at q <;> omega
    · rw [if_neg q] at ho; split at ho <;> simp at ho
  unfold amean
  rw [if_pos hv, if_neg (by simp [ho]), hs, c1]
  exact mean_in _ _ _ _ (by omega) (isum_ge l _ (fun x hx => (m3 x hx).1)) (isum_le l _ (fun x hx => (m3 x hx).2))

theorem keep1 {w w' : World} {b1 : Nat} {w0 : World} {B : AggV} (h1 : w.heap[b1]? = some (.cells #[.int .i64 B.c, .int .i64 B.hi, .int .u64 B.lo, .int .i64 B.mn, .int .i64 B.mx] 26)) (h3 : Below w0.heap.size w0 w) (hb : Below w.heap.size w w') :
    w'.heap[b1]? = some (.cells #[.int .i64 B.c, .int .i64 B.hi, .int .u64 B.lo, .int .i64 B.mn, .int .i64 B.mx] 26) ∧ Below w0.heap.size w0 w' ∧ (w'.cell? ⟨b1, 0, none⟩ = some (.int .i64 B.c) ∧ w'.cell? ⟨b1, 1, none⟩ = some (.int .i64 B.hi) ∧ w'.cell? ⟨b1, 2, none⟩ = some (.int .u64 B.lo) ∧ w'.cell? ⟨b1, 3, none⟩ = some (.int .i64 B.mn) ∧ w'.cell? ⟨b1, 4, none⟩ = some (.int .i64 B.mx)) :=
  ⟨heap_step h1 hb, chain h3 hb, agg_cells (heap_step h1 hb)⟩

set_option maxRecDepth 100000 in
set_option maxHeartbeats 4000000 in
theorem walkAggSums (v : Value) (l : List Int) (w : World) (hv : IntsAt w v l) : Calls Try.prog 6 #[v] w (BoolPost w true) := by
  have HV := Lib.hid hv
  obtain ⟨a, ca, rfl, hI, hlen, hc⟩ := hv
  have HC := Lib.hid hc
  have HI := Lib.hid hI
  clear hI hc
  by_cases h6 : 60 < l.length
  · have h60 : (60 : Int) < l.length := by omega
    clear h6
    go_enter Try.func6, Try.ntmps6
    go_wp2_with (go_at_call 10; refine (alive_any _).mono ?_; rintro e w1 ⟨rfl, hb1⟩)
    go_ret
    exact ⟨rfl, hb1⟩
  · have h60 : ¬ (60 : Int) < l.length := by omega
    go_enter Try.func6, Try.ntmps6
    go_wp2
    go_loopw [3, 4, 5] (fun hi lo i wr => ∃ (k : Nat) (H L : Int), k ≤ l.length ∧ i = .int .i64 k ∧ hi = .int .i64 H ∧ lo = .int .u64 L ∧ Hid (H * 18446744073709551616 + L = isum (l.take k)) ∧ (-61 ≤ H ∧ H ≤ 61) ∧ (0 ≤ L ∧ L ≤ 18446744073709551615) ∧ Below w.heap.size w wr) (fun _ _ i _ => l.length - (intOf i).toNat)
    case atStart => exact ⟨0, 0, 0, Nat.zero_le _, rfl, rfl, rfl, Lib.hid (by simp [isum]), by omega, by omega, Below.refl _ _⟩
    case round =>
      obtain ⟨k, H, L, hk, rfl, rfl, rfl, HE, hH, hL, hnx⟩ := hrel
      by_cases hlt : k < l.length
      · obtain ⟨b, o, rfl, hbw, hcl⟩ := HC.out (by intro h; simp [h] at hlt)
        have hx := hcl k hlt
        have hxI := HI.out (l.getD k 0) (by simp [hlt])
        have hxr := (hnx.cell (p := ⟨b, o + k, none⟩) hbw).trans hx
        have hE2 : isum (l.take (k + 1)) = isum (l.take k) + l.getD k 0 := by rw [take_snoc hlt, isum_snoc]
        have hbd := isum_bd (l.take (k + 1)) (fun y hy => HI.out y (List.mem_of_mem_take hy))
        have hkl : (l.take (k + 1)).length ≤ 60 := by have := List.length_take_le (k + 1) l; simp; omega
        rw [hE2, ← HE.out] at hbd
        rw [← HE.out] at hE2
        obtain ⟨x, hxe⟩ : ∃ x, x = l.getD k 0 := ⟨_, rfl⟩
        rw [← hxe] at hxr hxI hbd hE2
        have HE2 := Lib.hid hE2
        have HBD := Lib.hid (And.intro hbd hkl)
        clear hx hxe hcl hE2 hbd hkl
        by_cases q2 : x < 0
        all_goals
          go_wp2
          all_goals
            go_roundw
            case rel =>
              refine ⟨k + 1, _, _, by omega, by go_num, rfl, rfl, Lib.hid ?_, ?_, ?_, hnx⟩
              all_goals
                have e2 := HE2.out
                obtain ⟨b1, b2⟩ := HBD.out
                first | rw [e2] | skip
                simp only [u64_mod] at *
                omega
            case measure => simp [intOf]; omega
      · have hkl : k = l.length := by omega
        subst hkl
        have hE := HE.out
        rw [List.take_length] at hE
        obtain ⟨s1, s2, s3, s4⟩ := sums_facts l (by omega) HI.out H L hE hL.1 hL.2
        have S1 := Lib.hid s1
        have S2 := Lib.hid s2
        have hok := Lib.hid (aof_ok l HI.out)
        clear hlt hE s1 s2
        go_wp2_with fail
        refine (of_any _ l _ (HV.out.below hnx)).mono ?_
        rintro e w1 ⟨rfl, hb1⟩
        obtain ⟨A, hA⟩ : ∃ A, A = aof l := ⟨_, rfl⟩
        rw [← hA] at S1 S2 hok ⊢
        have HA := Lib.hid hA
        clear hA
        simp only [AggV.val]
        go_wp2_with fail
        refine (sum_any A _ hok.out).mono ?_
        rintro e w2 ⟨rfl, hb2⟩
        have hB2 := Lib.hid (heap_step (heap_alloc_new w1 _) hb2)
        have hbel : Below w.heap.size w w2 := chain (bel_alloc (chain hnx hb1) (by have := hnx.size; have := hb1.size; omega)) hb2
        have hasum : Hid (asum A = if H = (if L < 9223372036854775808 then 0 else -1) then (w64 L, false) else if H < 0 then (-9223372036854775808, true) else (9223372036854775807, true)) := Lib.hid (by unfold asum; rw [S1.out, S2.out])
        have hov := HA.out
        by_cases f0 : H = 0 ∧ L < 9223372036854775808
        · have e1 : H = (if L < 9223372036854775808 then 0 else -1) := by split <;> omega
          have hs := hasum.out
          rw [if_pos e1, show w64 L = L by unfold w64; omega] at hs
          have HS := Lib.hid hs
          rw [hs]
          have hwl : wrap64 L = L := by unfold wrap64; omega
          obtain ⟨rfl, f3⟩ := f0
          clear e1 hs
          by_cases hne : l.length = 0
          · have hl0 : ((l.length : Int) == 0) = true := by simpa using hne
            have hl1 : (l.length == 0) = true := by simpa using hne
            have hl2 : l = [] := List.eq_nil_of_length_eq_zero hne
            have hl3 : l.isEmpty = true := by simpa using hl2
            have HL2 := Lib.hid hl2
            clear hl2
            have hB := hB2.out
            obtain ⟨c0, c1, c2, c3, c4⟩ := agg_cells hB
            go_wp2_with fail
            refine wp_region_T (S := (fun w' => w'.heap[w1.heap.size]? = some (.cells #[.int .i64 A.c, .int .i64 A.hi, .int .u64 A.lo, .int .i64 A.mn, .int .i64 A.mx] 26) ∧ Below w.heap.size w w' ∧ (w'.cell? ⟨w1.heap.size, 0, none⟩ = some (.int .i64 A.c) ∧ w'.cell? ⟨w1.heap.size, 1, none⟩ = some (.int .i64 A.hi) ∧ w'.cell? ⟨w1.heap.size, 2, none⟩ = some (.int .u64 A.lo) ∧ w'.cell? ⟨w1.heap.size, 3, none⟩ = some (.int .i64 A.mn) ∧ w'.cell? ⟨w1.heap.size, 4, none⟩ = some (.int .i64 A.mx)))) 24 (by kernel_rfl) ?_ (fun hHeld => ?_)
            · (first | exact ⟨hB, hbel.drew, agg_cells hB⟩ | exact keep1 hHeld.1 hHeld.2.1 hb3)
            -- op 0: Op.call { callee := Callee.value (func 10), args := 
            refine wpAnyT_one (i := 0) rfl (by kernel_rfl) (fun K hK => ?_)
            go_simp
            (first | (go_at_call 10; refine (alive_any _).mono ?_; rintro e w3 ⟨rfl, hb3⟩) | (go_at_call 15; refine (mean_any A _ hok.out).mono ?_; rintro e w3 ⟨rfl, hb3⟩)); (try go_wp2_with fail)
            refine hK.out _ _ ?_ (fun hHeld2 => ?_)
            · (first | exact ⟨hB, hbel.drew, agg_cells hB⟩ | exact keep1 hHeld.1 hHeld.2.1 hb3)
            clear hK K hHeld
            have hHeld := hHeld2
            clear hHeld2
            try simp only [Act.put, List.setIfInBounds_toArray, List.set_cons_zero, List.set_cons_succ]
            -- op 1: Op.move (tmp 102)
            refine wpAnyT_take (i := 1) (v := ?_) rfl (by kernel_rfl) (fun _ _ _ h => h) (Or.inl ⟨by kernel_rfl, fun W hSW => ?_⟩) (by assumption) ?_; rotate_left
            · ((try dsimp only at hSW); go_simp; try (with_reducible rfl))
            simp only [Act.put, List.setIfInBounds_toArray, List.set_cons_zero, List.set_cons_succ]
            -- op 2: Op.move (tmp 0)
            refine wpAnyT_take (i := 2) (v := ?_) rfl (by kernel_rfl) (fun _ _ _ h => h) (Or.inl ⟨by kernel_rfl, fun W hSW => ?_⟩) (by assumption) ?_; rotate_left
            · ((try dsimp only at hSW); go_simp; try (with_reducible rfl))
            simp only [Act.put, List.setIfInBounds_toArray, List.set_cons_zero, List.set_cons_succ]
            -- op 3: Op.call { callee := Callee.builtin Builtin.len, args := #[Op
            refine wpAnyT_take (i := 3) (v := ?_) rfl (by kernel_rfl) (fun _ _ _ h => h) (Or.inl ⟨by kernel_rfl, fun W hSW => ?_⟩) (by assumption) ?_; rotate_left
            · ((try dsimp only at hSW); go_simp; try (with_reducible rfl))
            simp only [Act.put, List.setIfInBounds_toArray, List.set_cons_zero, List.set_cons_succ]
            -- op 4: Op.binOp BinOp.eql 3 (tmp 105) (const (Value
            refine wpAnyT_take (i := 4) (v := ?_) rfl (by kernel_rfl) (fun _ _ _ h => h) (Or.inl ⟨by kernel_rfl, fun W hSW => ?_⟩) (by assumption) ?_; rotate_left
            · ((try dsimp only at hSW); go_simp; try (with_reducible rfl))
            simp only [Act.put, List.setIfInBounds_toArray, List.set_cons_zero, List.set_cons_succ]
            -- op 5: Op.move (tmp 106)
            refine wpAnyT_take (i := 5) (v := ?_) rfl (by kernel_rfl) (fun _ _ _ h => h) (Or.inl ⟨by kernel_rfl, fun W hSW => ?_⟩) (by assumption) ?_; rotate_left
            · ((try dsimp only at hSW); go_simp; try (with_reducible rfl))
            simp only [Act.put, List.setIfInBounds_toArray, List.set_cons_zero, List.set_cons_succ]
            -- op 6: Op.move (tmp 9)
            refine wpAnyT_take (i := 6) (v := undef) rfl (by kernel_rfl) (fun _ _ _ h => h) (Or.inr ⟨by kernel_rfl, rfl⟩) (by assumption) ?_
            simp only [Act.put, List.setIfInBounds_toArray, List.set_cons_zero, List.set_cons_succ]
            -- op 7: Op.pick (tmp 107) (const (Value.bool true)) 
            refine wpAnyT_take (i := 7) (v := ?_) rfl (by kernel_rfl) (fun _ _ _ h => h) (Or.inl ⟨by kernel_rfl, fun W hSW => ?_⟩) (by assumption) ?_; rotate_left
            · ((try dsimp only at hSW); go_simp; try (with_reducible rfl))
            simp only [Act.put, List.setIfInBounds_toArray, List.set_cons_zero, List.set_cons_succ]
            -- op 8: Op.move (tmp 109)
            refine wpAnyT_take (i := 8) (v := ?_) rfl (by kernel_rfl) (fun _ _ _ h => h) (Or.inl ⟨by kernel_rfl, fun W hSW => ?_⟩) (by assumption) ?_; rotate_left
            · ((try dsimp only at hSW); go_simp; try (with_reducible rfl))
            simp only [Act.put, List.setIfInBounds_toArray, List.set_cons_zero, List.set_cons_succ]
            -- op 9: Op.load 26 (tmp 7)
            refine wpAnyT_take (i := 9) (v := undef) rfl (by kernel_rfl) (fun _ _ _ h => h) (Or.inr ⟨by kernel_rfl, rfl⟩) (by assumption) ?_
            simp only [Act.put, List.setIfInBounds_toArray, List.set_cons_zero, List.set_cons_succ]
            -- op 10: Op.call { callee := Callee.value (func 15), args := 
            refine wpAnyT_take (i := 10) (v := undef) rfl (by kernel_rfl) (fun _ _ _ h => h) (Or.inr ⟨by kernel_rfl, rfl⟩) (by assumption) ?_
            simp only [Act.put, List.setIfInBounds_toArray, List.set_cons_zero, List.set_cons_succ]
            -- op 11: Op.fieldAddr 26 (tmp 7) 3
            refine wpAnyT_take (i := 11) (v := undef) rfl (by kernel_rfl) (fun _ _ _ h => h) (Or.inr ⟨by kernel_rfl, rfl⟩) (by assumption) ?_
            simp only [Act.put, List.setIfInBounds_toArray, List.set_cons_zero, List.set_cons_succ]
            -- op 12: Op.load 3 (tmp 113)
            refine wpAnyT_take (i := 12) (v := undef) rfl (by kernel_rfl) (fun _ _ _ h => h) (Or.inr ⟨by kernel_rfl, rfl⟩) (by assumption) ?_
            simp only [Act.put, List.setIfInBounds_toArray, List.set_cons_zero, List.set_cons_succ]
            -- op 13: Op.binOp BinOp.geq 3 (tmp 112) (tmp 114) 3
            refine wpAnyT_take (i := 13) (v := undef) rfl (by kernel_rfl) (fun _ _ _ h => h) (Or.inr ⟨by kernel_rfl, rfl⟩) (by assumption) ?_
            simp only [Act.put, List.setIfInBounds_toArray, List.set_cons_zero, List.set_cons_succ]
            -- op 14: Op.move (tmp 115)
            refine wpAnyT_take (i := 14) (v := undef) rfl (by kernel_rfl) (fun _ _ _ h => h) (Or.inr ⟨by kernel_rfl, rfl⟩) (by assumption) ?_
            simp only [Act.put, List.setIfInBounds_toArray, List.set_cons_zero, List.set_cons_succ]
            -- op 15: Op.load 26 (tmp 7)
            refine wpAnyT_take (i := 15) (v := undef) rfl (by kernel_rfl) (fun _ _ _ h => h) (Or.inr ⟨by kernel_rfl, rfl⟩) (by assumption) ?_
            simp only [Act.put, List.setIfInBounds_toArray, List.set_cons_zero, List.set_cons_succ]
            -- op 16: Op.call { callee := Callee.value (func 15), args := 
            refine wpAnyT_take (i := 16) (v := undef) rfl (by kernel_rfl) (fun _ _ _ h => h) (Or.inr ⟨by kernel_rfl, rfl⟩) (by assumption) ?_
            simp only [Act.put, List.setIfInBounds_toArray, List.set_cons_zero, List.set_cons_succ]
            -- op 17: Op.fieldAddr 26 (tmp 7) 4
            refine wpAnyT_take (i := 17) (v := undef) rfl (by kernel_rfl) (fun _ _ _ h => h) (Or.inr ⟨by kernel_rfl, rfl⟩) (by assumption) ?_
            simp only [Act.put, List.setIfInBounds_toArray, List.set_cons_zero, List.set_cons_succ]
            -- op 18: Op.load 3 (tmp 119)
            refine wpAnyT_take (i := 18) (v := undef) rfl (by kernel_rfl) (fun _ _ _ h => h) (Or.inr ⟨by kernel_rfl, rfl⟩) (by assumption) ?_
            simp only [Act.put, List.setIfInBounds_toArray, List.set_cons_zero, List.set_cons_succ]
            -- op 19: Op.binOp BinOp.leq 3 (tmp 118) (tmp 120) 3
            refine wpAnyT_take (i := 19) (v := undef) rfl (by kernel_rfl) (fun _ _ _ h => h) (Or.inr ⟨by kernel_rfl, rfl⟩) (by assumption) ?_
            simp only [Act.put, List.setIfInBounds_toArray, List.set_cons_zero, List.set_cons_succ]
            -- op 20: Op.pick (tmp 116) (tmp 121) (const (
            refine wpAnyT_take (i := 20) (v := undef) rfl (by kernel_rfl) (fun _ _ _ h => h) (Or.inr ⟨by kernel_rfl, rfl⟩) (by assumption) ?_
            simp only [Act.put, List.setIfInBounds_toArray, List.set_cons_zero, List.set_cons_succ]
            -- op 21: Op.pick (tmp 110) (const (Value.bool true)) 
            refine wpAnyT_take (i := 21) (v := ?_) rfl (by kernel_rfl) (fun _ _ _ h => h) (Or.inl ⟨by kernel_rfl, fun W hSW => ?_⟩) (by assumption) ?_; rotate_left
            · ((try dsimp only at hSW); go_simp; try (with_reducible rfl))
            simp only [Act.put, List.setIfInBounds_toArray, List.set_cons_zero, List.set_cons_succ]
            -- op 22: Op.pick (tmp 103) (tmp 123) (const (
            refine wpAnyT_take (i := 22) (v := ?_) rfl (by kernel_rfl) (fun _ _ _ h => h) (Or.inl ⟨by kernel_rfl, fun W hSW => ?_⟩) (by assumption) ?_; rotate_left
            · ((try dsimp only at hSW); go_simp; try (with_reducible rfl))
            simp only [Act.put, List.setIfInBounds_toArray, List.set_cons_zero, List.set_cons_succ]
            -- op 23: Op.assign (tmp 124)
            refine wpAnyT_take (i := 23) (v := ?_) rfl (by kernel_rfl) (fun _ _ _ h => h) (Or.inl ⟨by kernel_rfl, fun W hSW => ?_⟩) (by assumption) ?_; rotate_left
            · ((try dsimp only at hSW); go_simp; try (with_reducible rfl))
            simp only [Act.put, List.setIfInBounds_toArray, List.set_cons_zero, List.set_cons_succ]
            refine wpAnyT_done (by kernel_rfl) ?_ _
            have hfin := hHeld.2.1
            go_wp2
            go_ret
            exact ⟨rfl, hfin⟩
          · have hl0 : ((l.length : Int) == 0) = false := by simpa using hne
            have hl1 : (l.length == 0) = false := by simpa using hne
            have hl3 : l.isEmpty = false := by simpa using hne
            have hl2 : ¬ l = [] := by simpa using hne
            have hm := mean_facts l (by omega) (by intro h; simp [h] at hne) HI.out (by rw [← hov, HS.out])
            rw [← hov] at hm
            obtain ⟨m1, m2⟩ := hm
            clear hov
            have hB := hB2.out
            obtain ⟨c0, c1, c2, c3, c4⟩ := agg_cells hB
            go_wp2_with fail
            refine wp_region_T (S := (fun w' => w'.heap[w1.heap.size]? = some (.cells #[.int .i64 A.c, .int .i64 A.hi, .int .u64 A.lo, .int .i64 A.mn, .int .i64 A.mx] 26) ∧ Below w.heap.size w w' ∧ (w'.cell? ⟨w1.heap.size, 0, none⟩ = some (.int .i64 A.c) ∧ w'.cell? ⟨w1.heap.size, 1, none⟩ = some (.int .i64 A.hi) ∧ w'.cell? ⟨w1.heap.size, 2, none⟩ = some (.int .u64 A.lo) ∧ w'.cell? ⟨w1.heap.size, 3, none⟩ = some (.int .i64 A.mn) ∧ w'.cell? ⟨w1.heap.size, 4, none⟩ = some (.int .i64 A.mx)))) 24 (by kernel_rfl) ?_ (fun hHeld => ?_)
            · (first | exact ⟨hB, hbel.drew, agg_cells hB⟩ | exact keep1 hHeld.1 hHeld.2.1 hb3)
            -- op 0: Op.call { callee := Callee.value (func 10), args := 
            refine wpAnyT_one (i := 0) rfl (by kernel_rfl) (fun K hK => ?_)
            go_simp
            (first | (go_at_call 10; refine (alive_any _).mono ?_; rintro e w3 ⟨rfl, hb3⟩) | (go_at_call 15; refine (mean_any A _ hok.out).mono ?_; rintro e w3 ⟨rfl, hb3⟩)); (try go_wp2_with fail)
            refine hK.out _ _ ?_ (fun hHeld2 => ?_)
            · (first | exact ⟨hB, hbel.drew, agg_cells hB⟩ | exact keep1 hHeld.1 hHeld.2.1 hb3)
            clear hK K hHeld
            have hHeld := hHeld2
            clear hHeld2
            try simp only [Act.put, List.setIfInBounds_toArray, List.set_cons_zero, List.set_cons_succ]
            -- op 1: Op.move (tmp 102)
            refine wpAnyT_take (i := 1) (v := ?_) rfl (by kernel_rfl) (fun _ _ _ h => h) (Or.inl ⟨by kernel_rfl, fun W hSW => ?_⟩) (by assumption) ?_; rotate_left
            · ((try dsimp only at hSW); go_simp; try (with_reducible rfl))
            simp only [Act.put, List.setIfInBounds_toArray, List.set_cons_zero, List.set_cons_succ]
            -- op 2: Op.move (tmp 0)
            refine wpAnyT_take (i := 2) (v := ?_) rfl (by kernel_rfl) (fun _ _ _ h => h) (Or.inl ⟨by kernel_rfl, fun W hSW => ?_⟩) (by assumption) ?_; rotate_left
            · ((try dsimp only at hSW); go_simp; try (with_reducible rfl))
            simp only [Act.put, List.setIfInBounds_toArray, List.set_cons_zero, List.set_cons_succ]
            -- op 3: Op.call { callee := Callee.builtin Builtin.len, args := #[Op
            refine wpAnyT_take (i := 3) (v := ?_) rfl (by kernel_rfl) (fun _ _ _ h => h) (Or.inl ⟨by kernel_rfl, fun W hSW => ?_⟩) (by assumption) ?_; rotate_left
            · ((try dsimp only at hSW); go_simp; try (with_reducible rfl))
            simp only [Act.put, List.setIfInBounds_toArray, List.set_cons_zero, List.set_cons_succ]
            -- op 4: Op.binOp BinOp.eql 3 (tmp 105) (const (Value
            refine wpAnyT_take (i := 4) (v := ?_) rfl (by kernel_rfl) (fun _ _ _ h => h) (Or.inl ⟨by kernel_rfl, fun W hSW => ?_⟩) (by assumption) ?_; rotate_left
            · ((try dsimp only at hSW); go_simp; try (with_reducible rfl))
            simp only [Act.put, List.setIfInBounds_toArray, List.set_cons_zero, List.set_cons_succ]
            -- op 5: Op.move (tmp 106)
            refine wpAnyT_take (i := 5) (v := ?_) rfl (by kernel_rfl) (fun _ _ _ h => h) (Or.inl ⟨by kernel_rfl, fun W hSW => ?_⟩) (by assumption) ?_; rotate_left
            · ((try dsimp only at hSW); go_simp; try (with_reducible rfl))
            simp only [Act.put, List.setIfInBounds_toArray, List.set_cons_zero, List.set_cons_succ]
            -- op 6: Op.move (tmp 9)
            refine wpAnyT_take (i := 6) (v := ?_) rfl (by kernel_rfl) (fun _ _ _ h => h) (Or.inl ⟨by kernel_rfl, fun W hSW => ?_⟩) (by assumption) ?_; rotate_left
            · ((try dsimp only at hSW); go_simp; try (with_reducible rfl))
            simp only [Act.put, List.setIfInBounds_toArray, List.set_cons_zero, List.set_cons_succ]
            -- op 7: Op.pick (tmp 107) (const (Value.bool true)) 
            refine wpAnyT_take (i := 7) (v := ?_) rfl (by kernel_rfl) (fun _ _ _ h => h) (Or.inl ⟨by kernel_rfl, fun W hSW => ?_⟩) (by assumption) ?_; rotate_left
            · ((try dsimp only at hSW); go_simp; try (with_reducible rfl))
            simp only [Act.put, List.setIfInBounds_toArray, List.set_cons_zero, List.set_cons_succ]
            -- op 8: Op.move (tmp 109)
            refine wpAnyT_take (i := 8) (v := ?_) rfl (by kernel_rfl) (fun _ _ _ h => h) (Or.inl ⟨by kernel_rfl, fun W hSW => ?_⟩) (by assumption) ?_; rotate_left
            · ((try dsimp only at hSW); go_simp; try (with_reducible rfl))
            simp only [Act.put, List.setIfInBounds_toArray, List.set_cons_zero, List.set_cons_succ]
            -- op 9: Op.load 26 (tmp 7)
            refine wpAnyT_take (i := 9) (v := ?_) rfl (by kernel_rfl) (fun _ _ _ h => h) (Or.inl ⟨by kernel_rfl, fun W hSW => ?_⟩) (by assumption) ?_; rotate_left
            · ((try dsimp only at hSW); go_simp; try (with_reducible rfl))
            simp only [Act.put, List.setIfInBounds_toArray, List.set_cons_zero, List.set_cons_succ]
            -- op 11: Op.fieldAddr 26 (tmp 7) 3
            refine wpAnyT_take (i := 11) (v := ?_) rfl (by kernel_rfl) (fun _ _ _ h => h) (Or.inl ⟨by kernel_rfl, fun W hSW => ?_⟩) (by assumption) ?_; rotate_left
            · ((try dsimp only at hSW); go_simp; try (with_reducible rfl))
            simp only [Act.put, List.setIfInBounds_toArray, List.set_cons_zero, List.set_cons_succ]
            -- op 12: Op.load 3 (tmp 113)
            refine wpAnyT_take (i := 12) (v := ?_) rfl (by kernel_rfl) (fun _ _ _ h => h) (Or.inl ⟨by kernel_rfl, fun W hSW => ?_⟩) (by assumption) ?_; rotate_left
            · ((try dsimp only at hSW); go_simp; try (with_reducible rfl))
            simp only [Act.put, List.setIfInBounds_toArray, List.set_cons_zero, List.set_cons_succ]
            -- op 10: Op.call { callee := Callee.value (func 15), args := 
            refine wpAnyT_one (i := 10) rfl (by kernel_rfl) (fun K hK => ?_)
            go_simp
            (first | (go_at_call 10; refine (alive_any _).mono ?_; rintro e w3 ⟨rfl, hb3⟩) | (go_at_call 15; refine (mean_any A _ hok.out).mono ?_; rintro e w3 ⟨rfl, hb3⟩)); (try go_wp2_with fail)
            refine hK.out _ _ ?_ (fun hHeld2 => ?_)
            · (first | exact ⟨hB, hbel.drew, agg_cells hB⟩ | exact keep1 hHeld.1 hHeld.2.1 hb3)
            clear hK K hHeld
            have hHeld := hHeld2
            clear hHeld2
            try simp only [Act.put, List.setIfInBounds_toArray, List.set_cons_zero, List.set_cons_succ]
            -- op 13: Op.binOp BinOp.geq 3 (tmp 112) (tmp 114) 3
            refine wpAnyT_take (i := 13) (v := ?_) rfl (by kernel_rfl) (fun _ _ _ h => h) (Or.inl ⟨by kernel_rfl, fun W hSW => ?_⟩) (by assumption) ?_; rotate_left
            · ((try dsimp only at hSW); go_simp; try (with_reducible rfl))
            simp only [Act.put, List.setIfInBounds_toArray, List.set_cons_zero, List.set_cons_succ]
            -- op 14: Op.move (tmp 115)
            refine wpAnyT_take (i := 14) (v := ?_) rfl (by kernel_rfl) (fun _ _ _ h => h) (Or.inl ⟨by kernel_rfl, fun W hSW => ?_⟩) (by assumption) ?_; rotate_left
            · ((try dsimp only at hSW); go_simp; try (with_reducible rfl))
            simp only [Act.put, List.setIfInBounds_toArray, List.set_cons_zero, List.set_cons_succ]
            -- op 15: Op.load 26 (tmp 7)
            refine wpAnyT_take (i := 15) (v := ?_) rfl (by kernel_rfl) (fun _ _ _ h => h) (Or.inl ⟨by kernel_rfl, fun W hSW => ?_⟩) (by assumption) ?_; rotate_left
            · ((try dsimp only at hSW); go_simp; try (with_reducible rfl))
            simp only [Act.put, List.setIfInBounds_toArray, List.set_cons_zero, List.set_cons_succ]
            -- op 17: Op.fieldAddr 26 (tmp 7) 4
            refine wpAnyT_take (i := 17) (v := ?_) rfl (by kernel_rfl) (fun _ _ _ h => h) (Or.inl ⟨by kernel_rfl, fun W hSW => ?_⟩) (by assumption) ?_; rotate_left
            · ((try dsimp only at hSW); go_simp; try (with_reducible rfl))
            simp only [Act.put, List.setIfInBounds_toArray, List.set_cons_zero, List.set_cons_succ]
            -- op 18: Op.load 3 (tmp 119)
            refine wpAnyT_take (i := 18) (v := ?_) rfl (by kernel_rfl) (fun _ _ _ h => h) (Or.inl ⟨by kernel_rfl, fun W hSW => ?_⟩) (by assumption) ?_; rotate_left
            · ((try dsimp only at hSW); go_simp; try (with_reducible rfl))
            simp only [Act.put, List.setIfInBounds_toArray, List.set_cons_zero, List.set_cons_succ]
            -- op 16: Op.call { callee := Callee.value (func 15), args := 
            refine wpAnyT_one (i := 16) rfl (by kernel_rfl) (fun K hK => ?_)
            go_simp
            (first | (go_at_call 10; refine (alive_any _).mono ?_; rintro e w3 ⟨rfl, hb3⟩) | (go_at_call 15; refine (mean_any A _ hok.out).mono ?_; rintro e w3 ⟨rfl, hb3⟩)); (try go_wp2_with fail)
            refine hK.out _ _ ?_ (fun hHeld2 => ?_)
            · (first | exact ⟨hB, hbel.drew, agg_cells hB⟩ | exact keep1 hHeld.1 hHeld.2.1 hb3)
            clear hK K hHeld
            have hHeld := hHeld2
            clear hHeld2
            try simp only [Act.put, List.setIfInBounds_toArray, List.set_cons_zero, List.set_cons_succ]
            -- op 19: Op.binOp BinOp.leq 3 (tmp 118) (tmp 120) 3
            refine wpAnyT_take (i := 19) (v := ?_) rfl (by kernel_rfl) (fun _ _ _ h => h) (Or.inl ⟨by kernel_rfl, fun W hSW => ?_⟩) (by assumption) ?_; rotate_left
            · ((try dsimp only at hSW); go_simp; try (with_reducible rfl))
            simp only [Act.put, List.setIfInBounds_toArray, List.set_cons_zero, List.set_cons_succ]
            -- op 20: Op.pick (tmp 116) (tmp 121) (const (
            refine wpAnyT_take (i := 20) (v := ?_) rfl (by kernel_rfl) (fun _ _ _ h => h) (Or.inl ⟨by kernel_rfl, fun W hSW => ?_⟩) (by assumption) ?_; rotate_left
            · ((try dsimp only at hSW); go_simp; try (with_reducible rfl))
            simp only [Act.put, List.setIfInBounds_toArray, List.set_cons_zero, List.set_cons_succ]
            -- op 21: Op.pick (tmp 110) (const (Value.bool true)) 
            refine wpAnyT_take (i := 21) (v := ?_) rfl (by kernel_rfl) (fun _ _ _ h => h) (Or.inl ⟨by kernel_rfl, fun W hSW => ?_⟩) (by assumption) ?_; rotate_left
            · ((try dsimp only at hSW); go_simp; try (with_reducible rfl))
            simp only [Act.put, List.setIfInBounds_toArray, List.set_cons_zero, List.set_cons_succ]
            -- op 22: Op.pick (tmp 103) (tmp 123) (const (
            refine wpAnyT_take (i := 22) (v := ?_) rfl (by kernel_rfl) (fun _ _ _ h => h) (Or.inl ⟨by kernel_rfl, fun W hSW => ?_⟩) (by assumption) ?_; rotate_left
            · ((try dsimp only at hSW); go_simp; try (with_reducible rfl))
            simp only [Act.put, List.setIfInBounds_toArray, List.set_cons_zero, List.set_cons_succ]
            -- op 23: Op.assign (tmp 124)
            refine wpAnyT_take (i := 23) (v := ?_) rfl (by kernel_rfl) (fun _ _ _ h => h) (Or.inl ⟨by kernel_rfl, fun W hSW => ?_⟩) (by assumption) ?_; rotate_left
            · ((try dsimp only at hSW); go_simp; try (with_reducible rfl))
            simp only [Act.put, List.setIfInBounds_toArray, List.set_cons_zero, List.set_cons_succ]
            refine wpAnyT_done (by kernel_rfl) ?_ _
            have hfin := hHeld.2.1
            go_wp2
            go_ret
            exact ⟨rfl, hfin⟩
        · by_cases f1 : H = -1 ∧ 9223372036854775808 ≤ L
          · have e1 : H = (if L < 9223372036854775808 then 0 else -1) := by split <;> omega
            have hs := hasum.out
            rw [if_pos e1, show w64 L = L - 18446744073709551616 by unfold w64; omega] at hs
            have HS := Lib.hid hs
            rw [hs]
            have hwl : wrap64 L = L - 18446744073709551616 := by unfold wrap64; omega
            obtain ⟨rfl, f3⟩ := f1
            clear e1 hs
            by_cases hne : l.length = 0
            · have hl0 : ((l.length : Int) == 0) = true := by simpa using hne
              have hl1 : (l.length == 0) = true := by simpa using hne
              have hl2 : l = [] := List.eq_nil_of_length_eq_zero hne
              have hl3 : l.isEmpty = true := by simpa using hl2
              have HL2 := Lib.hid hl2
              clear hl2
              have hB := hB2.out
              obtain ⟨c0, c1, c2, c3, c4⟩ := agg_cells hB
              go_wp2_with fail
              refine wp_region_T (S := (fun w' => w'.heap[w1.heap.size]? = some (.cells #[.int .i64 A.c, .int .i64 A.hi, .int .u64 A.lo, .int .i64 A.mn, .int .i64 A.mx] 26) ∧ Below w.heap.size w w' ∧ (w'.cell? ⟨w1.heap.size, 0, none⟩ = some (.int .i64 A.c) ∧ w'.cell? ⟨w1.heap.size, 1, none⟩ = some (.int .i64 A.hi) ∧ w'.cell? ⟨w1.heap.size, 2, none⟩ = some (.int .u64 A.lo) ∧ w'.cell? ⟨w1.heap.size, 3, none⟩ = some (.int .i64 A.mn) ∧ w'.cell? ⟨w1.heap.size, 4, none⟩ = some (.int .i64 A.mx)))) 24 (by kernel_rfl) ?_ (fun hHeld => ?_)
              · (first | exact ⟨hB, hbel.drew, agg_cells hB⟩ | exact keep1 hHeld.1 hHeld.2.1 hb3)
              -- op 0: Op.call { callee := Callee.value (func 10), args := 
              refine wpAnyT_one (i := 0) rfl (by kernel_rfl) (fun K hK => ?_)
              go_simp
              (first | (go_at_call 10; refine (alive_any _).mono ?_; rintro e w3 ⟨rfl, hb3⟩) | (go_at_call 15; refine (mean_any A _ hok.out).mono ?_; rintro e w3 ⟨rfl, hb3⟩)); (try go_wp2_with fail)
              refine hK.out _ _ ?_ (fun hHeld2 => ?_)
              · (first | exact ⟨hB, hbel.drew, agg_cells hB⟩ | exact keep1 hHeld.1 hHeld.2.1 hb3)
              clear hK K hHeld
              have hHeld := hHeld2
              clear hHeld2
              try simp only [Act.put, List.setIfInBounds_toArray, List.set_cons_zero, List.set_cons_succ]
              -- op 1: Op.move (tmp 102)
              refine wpAnyT_take (i := 1) (v := ?_) rfl (by kernel_rfl) (fun _ _ _ h => h) (Or.inl ⟨by kernel_rfl, fun W hSW => ?_⟩) (by assumption) ?_; rotate_left
              · ((try dsimp only at hSW); go_simp; try (with_reducible rfl))
              simp only [Act.put, List.setIfInBounds_toArray, List.set_cons_zero, List.set_cons_succ]
              -- op 2: Op.move (tmp 0)
              refine wpAnyT_take (i := 2) (v := ?_) rfl (by kernel_rfl) (fun _ _ _ h => h) (Or.inl ⟨by kernel_rfl, fun W hSW => ?_⟩) (by assumption) ?_; rotate_left
              · ((try dsimp only at hSW); go_simp; try (with_reducible rfl))
              simp only [Act.put, List.setIfInBounds_toArray, List.set_cons_zero, List.set_cons_succ]
              -- op 3: Op.call { callee := Callee.builtin Builtin.len, args := #[Op
              refine wpAnyT_take (i := 3) (v := ?_) rfl (by kernel_rfl) (fun _ _ _ h => h) (Or.inl ⟨by kernel_rfl, fun W hSW => ?_⟩) (by assumption) ?_; rotate_left
              · ((try dsimp only at hSW); go_simp; try (with_reducible rfl))
              simp only [Act.put, List.setIfInBounds_toArray, List.set_cons_zero, List.set_cons_succ]
              -- op 4: Op.binOp BinOp.eql 3 (tmp 105) (const (Value
              refine wpAnyT_take (i := 4) (v := ?_) rfl (by kernel_rfl) (fun _ _ _ h => h) (Or.inl ⟨by kernel_rfl, fun W hSW => ?_⟩) (by assumption) ?_; rotate_left
              · ((try dsimp only at hSW); go_simp; try (with_reducible rfl))
              simp only [Act.put, List.setIfInBounds_toArray, List.set_cons_zero, List.set_cons_succ]
              -- op 5: Op.move (tmp 106)
              refine wpAnyT_take (i := 5) (v := ?_) rfl (by kernel_rfl) (fun _ _ _ h => h) (Or.inl ⟨by kernel_rfl, fun W hSW => ?_⟩) (by assumption) ?_; rotate_left
              · ((try dsimp only at hSW); go_simp; try (with_reducible rfl))
              simp only [Act.put, List.setIfInBounds_toArray, List.set_cons_zero, List.set_cons_succ]
              -- op 6: Op.move (tmp 9)
              refine wpAnyT_take (i := 6) (v := undef) rfl (by kernel_rfl) (fun _ _ _ h => h) (Or.inr ⟨by kernel_rfl, rfl⟩) (by assumption) ?_
              simp only [Act.put, List.setIfInBounds_toArray, List.set_cons_zero, List.set_cons_succ]
              -- op 7: Op.pick (tmp 107) (const (Value.bool true)) 
              refine wpAnyT_take (i := 7) (v := ?_) rfl (by kernel_rfl) (fun _ _ _ h => h) (Or.inl ⟨by kernel_rfl, fun W hSW => ?_⟩) (by assumption) ?_; rotate_left
              · ((try dsimp only at hSW); go_simp; try (with_reducible rfl))
              simp only [Act.put, List.setIfInBounds_toArray, List.set_cons_zero, List.set_cons_succ]
              -- op 8: Op.move (tmp 109)
              refine wpAnyT_take (i := 8) (v := ?_) rfl (by kernel_rfl) (fun _ _ _ h => h) (Or.inl ⟨by kernel_rfl, fun W hSW => ?_⟩) (by assumption) ?_; rotate_left
              · ((try dsimp only at hSW); go_simp; try (with_reducible rfl))
              simp only [Act.put, List.setIfInBounds_toArray, List.set_cons_zero, List.set_cons_succ]
              -- op 9: Op.load 26 (tmp 7)
              refine wpAnyT_take (i := 9) (v := undef) rfl (by kernel_rfl) (fun _ _ _ h => h) (Or.inr ⟨by kernel_rfl, rfl⟩) (by assumption) ?_
              simp only [Act.put, List.setIfInBounds_toArray, List.set_cons_zero, List.set_cons_succ]
              -- op 10: Op.call { callee := Callee.value (func 15), args := 
              refine wpAnyT_take (i := 10) (v := undef) rfl (by kernel_rfl) (fun _ _ _ h => h) (Or.inr ⟨by kernel_rfl, rfl⟩) (by assumption) ?_
              simp only [Act.put, List.setIfInBounds_toArray, List.set_cons_zero, List.set_cons_succ]
              -- op 11: Op.fieldAddr 26 (tmp 7) 3
              refine wpAnyT_take (i := 11) (v := undef) rfl (by kernel_rfl) (fun _ _ _ h => h) (Or.inr ⟨by kernel_rfl, rfl⟩) (by assumption) ?_
              simp only [Act.put, List.setIfInBounds_toArray, List.set_cons_zero, List.set_cons_succ]
              -- op 12: Op.load 3 (tmp 113)
              refine wpAnyT_take (i := 12) (v := undef) rfl (by kernel_rfl) (fun _ _ _ h => h) (Or.inr ⟨by kernel_rfl, rfl⟩) (by assumption) ?_
              simp only [Act.put, List.setIfInBounds_toArray, List.set_cons_zero, List.set_cons_succ]
              -- op 13: Op.binOp BinOp.geq 3 (tmp 112) (tmp 114) 3
              refine wpAnyT_take (i := 13) (v := undef) rfl (by kernel_rfl) (fun _ _ _ h => h) (Or.inr ⟨by kernel_rfl, rfl⟩) (by assumption) ?_
              simp only [Act.put, List.setIfInBounds_toArray, List.set_cons_zero, List.set_cons_succ]
              -- op 14: Op.move (tmp 115)
              refine wpAnyT_take (i := 14) (v := undef) rfl (by kernel_rfl) (fun _ _ _ h => h) (Or.inr ⟨by kernel_rfl, rfl⟩) (by assumption) ?_
              simp only [Act.put, List.setIfInBounds_toArray, List.set_cons_zero, List.set_cons_succ]
              -- op 15: Op.load 26 (tmp 7)
              refine wpAnyT_take (i := 15) (v := undef) rfl (by kernel_rfl) (fun _ _ _ h => h) (Or.inr ⟨by kernel_rfl, rfl⟩) (by assumption) ?_
              simp only [Act.put, List.setIfInBounds_toArray, List.set_cons_zero, List.set_cons_succ]
              -- op 16: Op.call { callee := Callee.value (func 15), args := 
              refine wpAnyT_take (i := 16) (v := undef) rfl (by kernel_rfl) (fun _ _ _ h => h) (Or.inr ⟨by kernel_rfl, rfl⟩) (by assumption) ?_
              simp only [Act.put, List.setIfInBounds_toArray, List.set_cons_zero, List.set_cons_succ]
              -- op 17: Op.fieldAddr 26 (tmp 7) 4
              refine wpAnyT_take (i := 17) (v := undef) rfl (by kernel_rfl) (fun _ _ _ h => h) (Or.inr ⟨by kernel_rfl, rfl⟩) (by assumption) ?_
              simp only [Act.put, List.setIfInBounds_toArray, List.set_cons_zero, List.set_cons_succ]
              -- op 18: Op.load 3 (tmp 119)
              refine wpAnyT_take (i := 18) (v := undef) rfl (by kernel_rfl) (fun _ _ _ h => h) (Or.inr ⟨by kernel_rfl, rfl⟩) (by assumption) ?_
              simp only [Act.put, List.setIfInBounds_toArray, List.set_cons_zero, List.set_cons_succ]
              -- op 19: Op.binOp BinOp.leq 3 (tmp 118) (tmp 120) 3
              refine wpAnyT_take (i := 19) (v := undef) rfl (by kernel_rfl) (fun _ _ _ h => h) (Or.inr ⟨by kernel_rfl, rfl⟩) (by assumption) ?_
              simp only [Act.put, List.setIfInBounds_toArray, List.set_cons_zero, List.set_cons_succ]
              -- op 20: Op.pick (tmp 116) (tmp 121) (const (
              refine wpAnyT_take (i := 20) (v := undef) rfl (by kernel_rfl) (fun _ _ _ h => h) (Or.inr ⟨by kernel_rfl, rfl⟩) (by assumption) ?_
              simp only [Act.put, List.setIfInBounds_toArray, List.set_cons_zero, List.set_cons_succ]
              -- op 21: Op.pick (tmp 110) (const (Value.bool true)) 
              refine wpAnyT_take (i := 21) (v := ?_) rfl (by kernel_rfl) (fun _ _ _ h => h) (Or.inl ⟨by kernel_rfl, fun W hSW => ?_⟩) (by assumption) ?_; rotate_left
              · ((try dsimp only at hSW); go_simp; try (with_reducible rfl))
              simp only [Act.put, List.setIfInBounds_toArray, List.set_cons_zero, List.set_cons_succ]
              -- op 22: Op.pick (tmp 103) (tmp 123) (const (
              refine wpAnyT_take (i := 22) (v := ?_) rfl (by kernel_rfl) (fun _ _ _ h => h) (Or.inl ⟨by kernel_rfl, fun W hSW => ?_⟩) (by assumption) ?_; rotate_left
              · ((try dsimp only at hSW); go_simp; try (with_reducible rfl))
              simp only [Act.put, List.setIfInBounds_toArray, List.set_cons_zero, List.set_cons_succ]
              -- op 23: Op.assign (tmp 124)
              refine wpAnyT_take (i := 23) (v := ?_) rfl (by kernel_rfl) (fun _ _ _ h => h) (Or.inl ⟨by kernel_rfl, fun W hSW => ?_⟩) (by assumption) ?_; rotate_left
              · ((try dsimp only at hSW); go_simp; try (with_reducible rfl))
              simp only [Act.put, List.setIfInBounds_toArray, List.set_cons_zero, List.set_cons_succ]
              refine wpAnyT_done (by kernel_rfl) ?_ _
              have hfin := hHeld.2.1
              go_wp2
              go_ret
              exact ⟨rfl, hfin⟩
            · have hl0 : ((l.length : Int) == 0) = false := by simpa using hne
              have hl1 : (l.length == 0) = false := by simpa using hne
              have hl3 : l.isEmpty = false := by simpa using hne
              have hl2 : ¬ l = [] := by simpa using hne
              have hm := mean_facts l (by omega) (by intro h; simp [h] at hne) HI.out (by rw [← hov, HS.out])
              rw [← hov] at hm
              obtain ⟨m1, m2⟩ := hm
              clear hov
              have hB := hB2.out
              obtain ⟨c0, c1, c2, c3, c4⟩ := agg_cells hB
              go_wp2_with fail
              refine wp_region_T (S := (fun w' => w'.heap[w1.heap.size]? = some (.cells #[.int .i64 A.c, .int .i64 A.hi, .int .u64 A.lo, .int .i64 A.mn, .int .i64 A.mx] 26) ∧ Below w.heap.size w w' ∧ (w'.cell? ⟨w1.heap.size, 0, none⟩ = some (.int .i64 A.c) ∧ w'.cell? ⟨w1.heap.size, 1, none⟩ = some (.int .i64 A.hi) ∧ w'.cell? ⟨w1.heap.size, 2, none⟩ = some (.int .u64 A.lo) ∧ w'.cell? ⟨w1.heap.size, 3, none⟩ = some (.int .i64 A.mn) ∧ w'.cell? ⟨w1.heap.size, 4, none⟩ = some (.int .i64 A.mx)))) 24 (by kernel_rfl) ?_ (fun hHeld => ?_)
              · (first | exact ⟨hB, hbel.drew, agg_cells hB⟩ | exact keep1 hHeld.1 hHeld.2.1 hb3)
              -- op 0: Op.call { callee := Callee.value (func 10), args := 
              refine wpAnyT_one (i := 0) rfl (by kernel_rfl) (fun K hK => ?_)
              go_simp
              (first | (go_at_call 10; refine (alive_any _).mono ?_; rintro e w3 ⟨rfl, hb3⟩) | (go_at_call 15; refine (mean_any A _ hok.out).mono ?_; rintro e w3 ⟨rfl, hb3⟩)); (try go_wp2_with fail)
              refine hK.out _ _ ?_ (fun hHeld2 => ?_)
              · (first | exact ⟨hB, hbel.drew, agg_cells hB⟩ | exact keep1 hHeld.1 hHeld.2.1 hb3)
              clear hK K hHeld
              have hHeld := hHeld2
              clear hHeld2
              try simp only [Act.put, List.setIfInBounds_toArray, List.set_cons_zero, List.set_cons_succ]
              -- op 1: Op.move (tmp 102)
              refine wpAnyT_take (i := 1) (v := ?_) rfl (by kernel_rfl) (fun _ _ _ h => h) (Or.inl ⟨by kernel_rfl, fun W hSW => ?_⟩) (by assumption) ?_; rotate_left
              · ((try dsimp only at hSW); go_simp; try (with_reducible rfl))
              simp only [Act.put, List.setIfInBounds_toArray, List.set_cons_zero, List.set_cons_succ]
              -- op 2: Op.move (tmp 0)
              refine wpAnyT_take (i := 2) (v := ?_) rfl (by kernel_rfl) (fun _ _ _ h => h) (Or.inl ⟨by kernel_rfl, fun W hSW => ?_⟩) (by assumption) ?_; rotate_left
              · ((try dsimp only at hSW); go_simp; try (with_reducible rfl))
              simp only [Act.put, List.setIfInBounds_toArray, List.set_cons_zero, List.set_cons_succ]
              -- op 3: Op.call { callee := Callee.builtin Builtin.len, args := #[Op
              refine wpAnyT_take (i := 3) (v := ?_) rfl (by kernel_rfl) (fun _ _ _ h => h) (Or.inl ⟨by kernel_rfl, fun W hSW => ?_⟩) (by assumption) ?_; rotate_left
              · ((try dsimp only at hSW); go_simp; try (with_reducible rfl))
              simp only [Act.put, List.setIfInBounds_toArray, List.set_cons_zero, List.set_cons_succ]
              -- op 4: Op.binOp BinOp.eql 3 (tmp 105) (const (Value
              refine wpAnyT_take (i := 4) (v := ?_) rfl (by kernel_rfl) (fun _ _ _ h => h) (Or.inl ⟨by kernel_rfl, fun W hSW => ?_⟩) (by assumption) ?_; rotate_left
              · ((try dsimp only at hSW); go_simp; try (with_reducible rfl))
              simp only [Act.put, List.setIfInBounds_toArray, List.set_cons_zero, List.set_cons_succ]
              -- op 5: Op.move (tmp 106)
              refine wpAnyT_take (i := 5) (v := ?_) rfl (by kernel_rfl) (fun _ _ _ h => h) (Or.inl ⟨by kernel_rfl, fun W hSW => ?_⟩) (by assumption) ?_; rotate_left
              · ((try dsimp only at hSW); go_simp; try (with_reducible rfl))
              simp only [Act.put, List.setIfInBounds_toArray, List.set_cons_zero, List.set_cons_succ]
              -- op 6: Op.move (tmp 9)
              refine wpAnyT_take (i := 6) (v := ?_) rfl (by kernel_rfl) (fun _ _ _ h => h) (Or.inl ⟨by kernel_rfl, fun W hSW => ?_⟩) (by assumption) ?_; rotate_left
              · ((try dsimp only at hSW); go_simp; try (with_reducible rfl))
              simp only [Act.put, List.setIfInBounds_toArray, List.set_cons_zero, List.set_cons_succ]
              -- op 7: Op.pick (tmp 107) (const (Value.bool true)) 
              refine wpAnyT_take (i := 7) (v := ?_) rfl (by kernel_rfl) (fun _ _ _ h => h) (Or.inl ⟨by kernel_rfl, fun W hSW => ?_⟩) (by assumption) ?_; rotate_left
              · ((try dsimp only at hSW); go_simp; try (with_reducible rfl))
              simp only [Act.put, List.setIfInBounds_toArray, List.set_cons_zero, List.set_cons_succ]
              -- op 8: Op.move (tmp 109)
              refine wpAnyT_take (i := 8) (v := ?_) rfl (by kernel_rfl) (fun _ _ _ h => h) (Or.inl ⟨by kernel_rfl, fun W hSW => ?_⟩) (by assumption) ?_; rotate_left
              · ((try dsimp only at hSW); go_simp; try (with_reducible rfl))
              simp only [Act.put, List.setIfInBounds_toArray, List.set_cons_zero, List.set_cons_succ]
              -- op 9: Op.load 26 (tmp 7)
              refine wpAnyT_take (i := 9) (v := ?_) rfl (by kernel_rfl) (fun _ _ _ h => h) (Or.inl ⟨by kernel_rfl, fun W hSW => ?_⟩) (by assumption) ?_; rotate_left
              · ((try dsimp only at hSW); go_simp; try (with_reducible rfl))
              simp only [Act.put, List.setIfInBounds_toArray, List.set_cons_zero, List.set_cons_succ]
              -- op 11: Op.fieldAddr 26 (tmp 7) 3
              refine wpAnyT_take (i := 11) (v := ?_) rfl (by kernel_rfl) (fun _ _ _ h => h) (Or.inl ⟨by kernel_rfl, fun W hSW => ?_⟩) (by assumption) ?_; rotate_left
              · ((try dsimp only at hSW); go_simp; try (with_reducible rfl))
              simp only [Act.put, List.setIfInBounds_toArray, List.set_cons_zero, List.set_cons_succ]
              -- op 12: Op.load 3 (tmp 113)
              refine wpAnyT_take (i := 12) (v := ?_) rfl (by kernel_rfl) (fun _ _ _ h => h) (Or.inl ⟨by kernel_rfl, fun W hSW => ?_⟩) (by assumption) ?_; rotate_left
              · ((try dsimp only at hSW); go_simp; try (with_reducible rfl))
              simp only [Act.put, List.setIfInBounds_toArray, List.set_cons_zero, List.set_cons_succ]
              -- op 10: Op.call { callee := Callee.value (func 15), args := 
              refine wpAnyT_one (i := 10) rfl (by kernel_rfl) (fun K hK => ?_)
              go_simp
              (first | (go_at_call 10; refine (alive_any _).mono ?_; rintro e w3 ⟨rfl, hb3⟩) | (go_at_call 15; refine (mean_any A _ hok.out).mono ?_; rintro e w3 ⟨rfl, hb3⟩)); (try go_wp2_with fail)
              refine hK.out _ _ ?_ (fun hHeld2 => ?_)
              · (first | exact ⟨hB, hbel.drew, agg_cells hB⟩ | exact keep1 hHeld.1 hHeld.2.1 hb3)
              clear hK K hHeld
              have hHeld := hHeld2
              clear hHeld2
              try simp only [Act.put, List.setIfInBounds_toArray, List.set_cons_zero, List.set_cons_succ]
              -- op 13: Op.binOp BinOp.geq 3 (tmp 112) (tmp 114) 3
              refine wpAnyT_take (i := 13) (v := ?_) rfl (by kernel_rfl) (fun _ _ _ h => h) (Or.inl ⟨by kernel_rfl, fun W hSW => ?_⟩) (by assumption) ?_; rotate_left
              · ((try dsimp only at hSW); go_simp; try (with_reducible rfl))
              simp only [Act.put, List.setIfInBounds_toArray, List.set_cons_zero, List.set_cons_succ]
              -- op 14: Op.move (tmp 115)
              refine wpAnyT_take (i := 14) (v := ?_) rfl (by kernel_rfl) (fun _ _ _ h => h) (Or.inl ⟨by kernel_rfl, fun W hSW => ?_⟩) (by assumption) ?_; rotate_left
              · ((try dsimp only at hSW); go_simp; try (with_reducible rfl))
              simp only [Act.put, List.setIfInBounds_toArray, List.set_cons_zero, List.set_cons_succ]
              -- op 15: Op.load 26 (tmp 7)
              refine wpAnyT_take (i := 15) (v := ?_) rfl (by kernel_rfl) (fun _ _ _ h => h) (Or.inl ⟨by kernel_rfl, fun W hSW => ?_⟩) (by assumption) ?_; rotate_left
              · ((try dsimp only at hSW); go_simp; try (with_reducible rfl))
              simp only [Act.put, List.setIfInBounds_toArray, List.set_cons_zero, List.set_cons_succ]
              -- op 17: Op.fieldAddr 26 (tmp 7) 4
              refine wpAnyT_take (i := 17) (v := ?_) rfl (by kernel_rfl) (fun _ _ _ h => h) (Or.inl ⟨by kernel_rfl, fun W hSW => ?_⟩) (by assumption) ?_; rotate_left
              · ((try dsimp only at hSW); go_simp; try (with_reducible rfl))
              simp only [Act.put, List.setIfInBounds_toArray, List.set_cons_zero, List.set_cons_succ]
              -- op 18: Op.load 3 (tmp 119)
              refine wpAnyT_take (i := 18) (v := ?_) rfl (by kernel_rfl) (fun _ _ _ h => h) (Or.inl ⟨by kernel_rfl, fun W hSW => ?_⟩) (by assumption) ?_; rotate_left
              · ((try dsimp only at hSW); go_simp; try (with_reducible rfl))
              simp only [Act.put, List.setIfInBounds_toArray, List.set_cons_zero, List.set_cons_succ]
              -- op 16: Op.call { callee := Callee.value (func 15), args := 
              refine wpAnyT_one (i := 16) rfl (by kernel_rfl) (fun K hK => ?_)
              go_simp
              (first | (go_at_call 10; refine (alive_any _).mono ?_; rintro e w3 ⟨rfl, hb3⟩) | (go_at_call 15; refine (mean_any A _ hok.out).mono ?_; rintro e w3 ⟨rfl, hb3⟩)); (try go_wp2_with fail)
              refine hK.out _ _ ?_ (fun hHeld2 => ?_)
              · (first | exact ⟨hB, hbel.drew, agg_cells hB⟩ | exact keep1 hHeld.1 hHeld.2.1 hb3)
              clear hK K hHeld
              have hHeld := hHeld2
              clear hHeld2
              try simp only [Act.put, List.setIfInBounds_toArray, List.set_cons_zero, List.set_cons_succ]
              -- op 19: Op.binOp BinOp.leq 3 (tmp 118) (tmp 120) 3
              refine wpAnyT_take (i := 19) (v := ?_) rfl (by kernel_rfl) (fun _ _ _ h => h) (Or.inl ⟨by kernel_rfl, fun W hSW => ?_⟩) (by assumption) ?_; rotate_left
              · ((try dsimp only at hSW); go_simp; try (with_reducible rfl))
              simp only [Act.put, List.setIfInBounds_toArray, List.set_cons_zero, List.set_cons_succ]
              -- op 20: Op.pick (tmp 116) (tmp 121) (const (
              refine wpAnyT_take (i := 20) (v := ?_) rfl (by kernel_rfl) (fun _ _ _ h => h) (Or.inl ⟨by kernel_rfl, fun W hSW => ?_⟩) (by assumption) ?_; rotate_left
              · ((try dsimp only at hSW); go_simp; try (with_reducible rfl))
              simp only [Act.put, List.setIfInBounds_toArray, List.set_cons_zero, List.set_cons_succ]
              -- op 21: Op.pick (tmp 110) (const (Value.bool true)) 
              refine wpAnyT_take (i := 21) (v := ?_) rfl (by kernel_rfl) (fun _ _ _ h => h) (Or.inl ⟨by kernel_rfl, fun W hSW => ?_⟩) (by assumption) ?_; rotate_left
              · ((try dsimp only at hSW); go_simp; try (with_reducible rfl))
              simp only [Act.put, List.setIfInBounds_toArray, List.set_cons_zero, List.set_cons_succ]
              -- op 22: Op.pick (tmp 103) (tmp 123) (const (
              refine wpAnyT_take (i := 22) (v := ?_) rfl (by kernel_rfl) (fun _ _ _ h => h) (Or.inl ⟨by kernel_rfl, fun W hSW => ?_⟩) (by assumption) ?_; rotate_left
              · ((try dsimp only at hSW); go_simp; try (with_reducible rfl))
              simp only [Act.put, List.setIfInBounds_toArray, List.set_cons_zero, List.set_cons_succ]
              -- op 23: Op.assign (tmp 124)
              refine wpAnyT_take (i := 23) (v := ?_) rfl (by kernel_rfl) (fun _ _ _ h => h) (Or.inl ⟨by kernel_rfl, fun W hSW => ?_⟩) (by assumption) ?_; rotate_left
              · ((try dsimp only at hSW); go_simp; try (with_reducible rfl))
              simp only [Act.put, List.setIfInBounds_toArray, List.set_cons_zero, List.set_cons_succ]
              refine wpAnyT_done (by kernel_rfl) ?_ _
              have hfin := hHeld.2.1
              go_wp2
              go_ret
              exact ⟨rfl, hfin⟩
          · have e1 : ¬ (H = (if L < 9223372036854775808 then 0 else -1)) := by split <;> omega
            have hs := hasum.out
            rw [if_neg e1] at hs
            clear e1 hov
            by_cases f2 : H < 0
            · rw [if_pos f2] at hs
              rw [hs]
              clear hs
              by_cases f3 : H = -1
              · have f4 : L < 9223372036854775808 := by omega
                subst f3
                clear f0 f1
                by_cases hne : l.length = 0
                · have hl0 : ((l.length : Int) == 0) = true := by simpa using hne
                  have hl1 : (l.length == 0) = true := by simpa using hne
                  have hl2 : l = [] := List.eq_nil_of_length_eq_zero hne
                  have hl3 : l.isEmpty = true := by simpa using hl2
                  clear hl2
                  have hB := hB2.out
                  obtain ⟨c0, c1, c2, c3, c4⟩ := agg_cells hB
                  go_wp2_with fail
                  refine wp_region_T (S := (fun w' => w'.heap[w1.heap.size]? = some (.cells #[.int .i64 A.c, .int .i64 A.hi, .int .u64 A.lo, .int .i64 A.mn, .int .i64 A.mx] 26) ∧ Below w.heap.size w w' ∧ (w'.cell? ⟨w1.heap.size, 0, none⟩ = some (.int .i64 A.c) ∧ w'.cell? ⟨w1.heap.size, 1, none⟩ = some (.int .i64 A.hi) ∧ w'.cell? ⟨w1.heap.size, 2, none⟩ = some (.int .u64 A.lo) ∧ w'.cell? ⟨w1.heap.size, 3, none⟩ = some (.int .i64 A.mn) ∧ w'.cell? ⟨w1.heap.size, 4, none⟩ = some (.int .i64 A.mx)))) 24 (by kernel_rfl) ?_ (fun hHeld => ?_)
                  · (first | exact ⟨hB, hbel.drew, agg_cells hB⟩ | exact keep1 hHeld.1 hHeld.2.1 hb3)
                  -- op 0: Op.call { callee := Callee.value (func 10), args := 
                  refine wpAnyT_one (i := 0) rfl (by kernel_rfl) (fun K hK => ?_)
                  go_simp
                  (first | (go_at_call 10; refine (alive_any _).mono ?_; rintro e w3 ⟨rfl, hb3⟩) | (go_at_call 15; refine (mean_any A _ hok.out).mono ?_; rintro e w3 ⟨rfl, hb3⟩)); (try go_wp2_with fail)
                  refine hK.out _ _ ?_ (fun hHeld2 => ?_)
                  · (first | exact ⟨hB, hbel.drew, agg_cells hB⟩ | exact keep1 hHeld.1 hHeld.2.1 hb3)
                  clear hK K hHeld
                  have hHeld := hHeld2
                  clear hHeld2
                  try simp only [Act.put, List.setIfInBounds_toArray, List.set_cons_zero, List.set_cons_succ]
                  -- op 1: Op.move (tmp 102)
                  refine wpAnyT_take (i := 1) (v := ?_) rfl (by kernel_rfl) (fun _ _ _ h => h) (Or.inl ⟨by kernel_rfl, fun W hSW => ?_⟩) (by assumption) ?_; rotate_left
                  · ((try dsimp only at hSW); go_simp; try (with_reducible rfl))
                  simp only [Act.put, List.setIfInBounds_toArray, List.set_cons_zero, List.set_cons_succ]
                  -- op 2: Op.move (tmp 0)
                  refine wpAnyT_take (i := 2) (v := ?_) rfl (by kernel_rfl) (fun _ _ _ h => h) (Or.inl ⟨by kernel_rfl, fun W hSW => ?_⟩) (by assumption) ?_; rotate_left
                  · ((try dsimp only at hSW); go_simp; try (with_reducible rfl))
                  simp only [Act.put, List.setIfInBounds_toArray, List.set_cons_zero, List.set_cons_succ]
                  -- op 3: Op.call { callee := Callee.builtin Builtin.len, args := #[Op
                  refine wpAnyT_take (i := 3) (v := ?_) rfl (by kernel_rfl) (fun _ _ _ h => h) (Or.inl ⟨by kernel_rfl, fun W hSW => ?_⟩) (by assumption) ?_; rotate_left
                  · ((try dsimp only at hSW); go_simp; try (with_reducible rfl))
                  simp only [Act.put, List.setIfInBounds_toArray, List.set_cons_zero, List.set_cons_succ]
                  -- op 4: Op.binOp BinOp.eql 3 (tmp 105) (const (Value
                  refine wpAnyT_take (i := 4) (v := ?_) rfl (by kernel_rfl) (fun _ _ _ h => h) (Or.inl ⟨by kernel_rfl, fun W hSW => ?_⟩) (by assumption) ?_; rotate_left
                  · ((try dsimp only at hSW); go_simp; try (with_reducible rfl))
                  simp only [Act.put, List.setIfInBounds_toArray, List.set_cons_zero, List.set_cons_succ]
                  -- op 5: Op.move (tmp 106)
                  refine wpAnyT_take (i := 5) (v := ?_) rfl (by kernel_rfl) (fun _ _ _ h => h) (Or.inl ⟨by kernel_rfl, fun W hSW => ?_⟩) (by assumption) ?_; rotate_left
                  · ((try dsimp only at hSW); go_simp; try (with_reducible rfl))
                  simp only [Act.put, List.setIfInBounds_toArray, List.set_cons_zero, List.set_cons_succ]
                  -- op 6: Op.move (tmp 9)
                  refine wpAnyT_take (i := 6) (v := undef) rfl (by kernel_rfl) (fun _ _ _ h => h) (Or.inr ⟨by kernel_rfl, rfl⟩) (by assumption) ?_
                  simp only [Act.put, List.setIfInBounds_toArray, List.set_cons_zero, List.set_cons_succ]
                  -- op 7: Op.pick (tmp 107) (const (Value.bool true)) 
                  refine wpAnyT_take (i := 7) (v := ?_) rfl (by kernel_rfl) (fun _ _ _ h => h) (Or.inl ⟨by kernel_rfl, fun W hSW => ?_⟩) (by assumption) ?_; rotate_left
                  · ((try dsimp only at hSW); go_simp; try (with_reducible rfl))
                  simp only [Act.put, List.setIfInBounds_toArray, List.set_cons_zero, List.set_cons_succ]
                  -- op 8: Op.move (tmp 109)
                  refine wpAnyT_take (i := 8) (v := ?_) rfl (by kernel_rfl) (fun _ _ _ h => h) (Or.inl ⟨by kernel_rfl, fun W hSW => ?_⟩) (by assumption) ?_; rotate_left
                  · ((try dsimp only at hSW); go_simp; try (with_reducible rfl))
                  simp only [Act.put, List.setIfInBounds_toArray, List.set_cons_zero, List.set_cons_succ]
                  -- op 9: Op.load 26 (tmp 7)
                  refine wpAnyT_take (i := 9) (v := undef) rfl (by kernel_rfl) (fun _ _ _ h => h) (Or.inr ⟨by kernel_rfl, rfl⟩) (by assumption) ?_
                  simp only [Act.put, List.setIfInBounds_toArray, List.set_cons_zero, List.set_cons_succ]
                  -- op 10: Op.call { callee := Callee.value (func 15), args := 
                  refine wpAnyT_take (i := 10) (v := undef) rfl (by kernel_rfl) (fun _ _ _ h => h) (Or.inr ⟨by kernel_rfl, rfl⟩) (by assumption) ?_
                  simp only [Act.put, List.setIfInBounds_toArray, List.set_cons_zero, List.set_cons_succ]
                  -- op 11: Op.fieldAddr 26 (tmp 7) 3
                  refine wpAnyT_take (i := 11) (v := undef) rfl (by kernel_rfl) (fun _ _ _ h => h) (Or.inr ⟨by kernel_rfl, rfl⟩) (by assumption) ?_
                  simp only [Act.put, List.setIfInBounds_toArray, List.set_cons_zero, List.set_cons_succ]
                  -- op 12: Op.load 3 (tmp 113)
                  refine wpAnyT_take (i := 12) (v := undef) rfl (by kernel_rfl) (fun _ _ _ h => h) (Or.inr ⟨by kernel_rfl, rfl⟩) (by assumption) ?_
                  simp only [Act.put, List.setIfInBounds_toArray, List.set_cons_zero, List.set_cons_succ]
                  -- op 13: Op.binOp BinOp.geq 3 (tmp 112) (tmp 114) 3
                  refine wpAnyT_take (i := 13) (v := undef) rfl (by kernel_rfl) (fun _ _ _ h => h) (Or.inr ⟨by kernel_rfl, rfl⟩) (by assumption) ?_
                  simp only [Act.put, List.setIfInBounds_toArray, List.set_cons_zero, List.set_cons_succ]
                  -- op 14: Op.move (tmp 115)
                  refine wpAnyT_take (i := 14) (v := undef) rfl (by kernel_rfl) (fun _ _ _ h => h) (Or.inr ⟨by kernel_rfl, rfl⟩) (by assumption) ?_
                  simp only [Act.put, List.setIfInBounds_toArray, List.set_cons_zero, List.set_cons_succ]
                  -- op 15: Op.load 26 (tmp 7)
                  refine wpAnyT_take (i := 15) (v := undef) rfl (by kernel_rfl) (fun _ _ _ h => h) (Or.inr ⟨by kernel_rfl, rfl⟩) (by assumption) ?_
                  simp only [Act.put, List.setIfInBounds_toArray, List.set_cons_zero, List.set_cons_succ]
                  -- op 16: Op.call { callee := Callee.value (func 15), args := 
                  refine wpAnyT_take (i := 16) (v := undef) rfl (by kernel_rfl) (fun _ _ _ h => h) (Or.inr ⟨by kernel_rfl, rfl⟩) (by assumption) ?_
                  simp only [Act.put, List.setIfInBounds_toArray, List.set_cons_zero, List.set_cons_succ]
                  -- op 17: Op.fieldAddr 26 (tmp 7) 4
                  refine wpAnyT_take (i := 17) (v := undef) rfl (by kernel_rfl) (fun _ _ _ h => h) (Or.inr ⟨by kernel_rfl, rfl⟩) (by assumption) ?_
                  simp only [Act.put, List.setIfInBounds_toArray, List.set_cons_zero, List.set_cons_succ]
                  -- op 18: Op.load 3 (tmp 119)
                  refine wpAnyT_take (i := 18) (v := undef) rfl (by kernel_rfl) (fun _ _ _ h => h) (Or.inr ⟨by kernel_rfl, rfl⟩) (by assumption) ?_
                  simp only [Act.put, List.setIfInBounds_toArray, List.set_cons_zero, List.set_cons_succ]
                  -- op 19: Op.binOp BinOp.leq 3 (tmp 118) (tmp 120) 3
                  refine wpAnyT_take (i := 19) (v := undef) rfl (by kernel_rfl) (fun _ _ _ h => h) (Or.inr ⟨by kernel_rfl, rfl⟩) (by assumption) ?_
                  simp only [Act.put, List.setIfInBounds_toArray, List.set_cons_zero, List.set_cons_succ]
                  -- op 20: Op.pick (tmp 116) (tmp 121) (const (
                  refine wpAnyT_take (i := 20) (v := undef) rfl (by kernel_rfl) (fun _ _ _ h => h) (Or.inr ⟨by kernel_rfl, rfl⟩) (by assumption) ?_
                  simp only [Act.put, List.setIfInBounds_toArray, List.set_cons_zero, List.set_cons_succ]
                  -- op 21: Op.pick (tmp 110) (const (Value.bool true)) 
                  refine wpAnyT_take (i := 21) (v := ?_) rfl (by kernel_rfl) (fun _ _ _ h => h) (Or.inl ⟨by kernel_rfl, fun W hSW => ?_⟩) (by assumption) ?_; rotate_left
                  · ((try dsimp only at hSW); go_simp; try (with_reducible rfl))
                  simp only [Act.put, List.setIfInBounds_toArray, List.set_cons_zero, List.set_cons_succ]
                  -- op 22: Op.pick (tmp 103) (tmp 123) (const (
                  refine wpAnyT_take (i := 22) (v := ?_) rfl (by kernel_rfl) (fun _ _ _ h => h) (Or.inl ⟨by kernel_rfl, fun W hSW => ?_⟩) (by assumption) ?_; rotate_left
                  · ((try dsimp only at hSW); go_simp; try (with_reducible rfl))
                  simp only [Act.put, List.setIfInBounds_toArray, List.set_cons_zero, List.set_cons_succ]
                  -- op 23: Op.assign (tmp 124)
                  refine wpAnyT_take (i := 23) (v := ?_) rfl (by kernel_rfl) (fun _ _ _ h => h) (Or.inl ⟨by kernel_rfl, fun W hSW => ?_⟩) (by assumption) ?_; rotate_left
                  · ((try dsimp only at hSW); go_simp; try (with_reducible rfl))
                  simp only [Act.put, List.setIfInBounds_toArray, List.set_cons_zero, List.set_cons_succ]
                  refine wpAnyT_done (by kernel_rfl) ?_ _
                  have hfin := hHeld.2.1
                  go_wp2
                  go_ret
                  exact ⟨rfl, hfin⟩
                · have hl0 : ((l.length : Int) == 0) = false := by simpa using hne
                  have hl1 : (l.length == 0) = false := by simpa using hne
                  have hl3 : l.isEmpty = false := by simpa using hne
                  have hl2 : ¬ l = [] := by simpa using hne
                  have hB := hB2.out
                  obtain ⟨c0, c1, c2, c3, c4⟩ := agg_cells hB
                  go_wp2_with fail
                  refine wp_region_T (S := (fun w' => w'.heap[w1.heap.size]? = some (.cells #[.int .i64 A.c, .int .i64 A.hi, .int .u64 A.lo, .int .i64 A.mn, .int .i64 A.mx] 26) ∧ Below w.heap.size w w' ∧ (w'.cell? ⟨w1.heap.size, 0, none⟩ = some (.int .i64 A.c) ∧ w'.cell? ⟨w1.heap.size, 1, none⟩ = some (.int .i64 A.hi) ∧ w'.cell? ⟨w1.heap.size, 2, none⟩ = some (.int .u64 A.lo) ∧ w'.cell? ⟨w1.heap.size, 3, none⟩ = some (.int .i64 A.mn) ∧ w'.cell? ⟨w1.heap.size, 4, none⟩ = some (.int .i64 A.mx)))) 24 (by kernel_rfl) ?_ (fun hHeld => ?_)
                  · (first | exact ⟨hB, hbel.drew, agg_cells hB⟩ | exact keep1 hHeld.1 hHeld.2.1 hb3)
                  -- op 0: Op.call { callee := Callee.value (func 10), args := 
                  refine wpAnyT_one (i := 0) rfl (by kernel_rfl) (fun K hK => ?_)
                  go_simp
                  (first | (go_at_call 10; refine (alive_any _).mono ?_; rintro e w3 ⟨rfl, hb3⟩) | (go_at_call 15; refine (mean_any A _ hok.out).mono ?_; rintro e w3 ⟨rfl, hb3⟩)); (try go_wp2_with fail)
                  refine hK.out _ _ ?_ (fun hHeld2 => ?_)
                  · (first | exact ⟨hB, hbel.drew, agg_cells hB⟩ | exact keep1 hHeld.1 hHeld.2.1 hb3)
                  clear hK K hHeld
                  have hHeld := hHeld2
                  clear hHeld2
                  try simp only [Act.put, List.setIfInBounds_toArray, List.set_cons_zero, List.set_cons_succ]
                  -- op 1: Op.move (tmp 102)
                  refine wpAnyT_take (i := 1) (v := ?_) rfl (by kernel_rfl) (fun _ _ _ h => h) (Or.inl ⟨by kernel_rfl, fun W hSW => ?_⟩) (by assumption) ?_; rotate_left
                  · ((try dsimp only at hSW); go_simp; try (with_reducible rfl))
                  simp only [Act.put, List.setIfInBounds_toArray, List.set_cons_zero, List.set_cons_succ]
                  -- op 2: Op.move (tmp 0)
                  refine wpAnyT_take (i := 2) (v := ?_) rfl (by kernel_rfl) (fun _ _ _ h => h) (Or.inl ⟨by kernel_rfl, fun W hSW => ?_⟩) (by assumption) ?_; rotate_left
                  · ((try dsimp only at hSW); go_simp; try (with_reducible rfl))
                  simp only [Act.put, List.setIfInBounds_toArray, List.set_cons_zero, List.set_cons_succ]
                  -- op 3: Op.call { callee := Callee.builtin Builtin.len, args := #[Op
                  refine wpAnyT_take (i := 3) (v := ?_) rfl (by kernel_rfl) (fun _ _ _ h => h) (Or.inl ⟨by kernel_rfl, fun W hSW => ?_⟩) (by assumption) ?_; rotate_left
                  · ((try dsimp only at hSW); go_simp; try (with_reducible rfl))
                  simp only [Act.put, List.setIfInBounds_toArray, List.set_cons_zero, List.set_cons_succ]
                  -- op 4: Op.binOp BinOp.eql 3 (tmp 105) (const (Value
                  refine wpAnyT_take (i := 4) (v := ?_) rfl (by kernel_rfl) (fun _ _ _ h => h) (Or.inl ⟨by kernel_rfl, fun W hSW => ?_⟩) (by assumption) ?_; rotate_left
                  · ((try dsimp only at hSW); go_simp; try (with_reducible rfl))
                  simp only [Act.put, List.setIfInBounds_toArray, List.set_cons_zero, List.set_cons_succ]
                  -- op 5: Op.move (tmp 106)
                  refine wpAnyT_take (i := 5) (v := ?_) rfl (by kernel_rfl) (fun _ _ _ h => h) (Or.inl ⟨by kernel_rfl, fun W hSW => ?_⟩) (by assumption) ?_; rotate_left
                  · ((try dsimp only at hSW); go_simp; try (with_reducible rfl))
                  simp only [Act.put, List.setIfInBounds_toArray, List.set_cons_zero, List.set_cons_succ]
                  -- op 6: Op.move (tmp 9)
                  refine wpAnyT_take (i := 6) (v := ?_) rfl (by kernel_rfl) (fun _ _ _ h => h) (Or.inl ⟨by kernel_rfl, fun W hSW => ?_⟩) (by assumption) ?_; rotate_left
                  · ((try dsimp only at hSW); go_simp; try (with_reducible rfl))
                  simp only [Act.put, List.setIfInBounds_toArray, List.set_cons_zero, List.set_cons_succ]
                  -- op 7: Op.pick (tmp 107) (const (Value.bool true)) 
                  refine wpAnyT_take (i := 7) (v := ?_) rfl (by kernel_rfl) (fun _ _ _ h => h) (Or.inl ⟨by kernel_rfl, fun W hSW => ?_⟩) (by assumption) ?_; rotate_left
                  · ((try dsimp only at hSW); go_simp; try (with_reducible rfl))
                  simp only [Act.put, List.setIfInBounds_toArray, List.set_cons_zero, List.set_cons_succ]
                  -- op 8: Op.move (tmp 109)
                  refine wpAnyT_take (i := 8) (v := ?_) rfl (by kernel_rfl) (fun _ _ _ h => h) (Or.inl ⟨by kernel_rfl, fun W hSW => ?_⟩) (by assumption) ?_; rotate_left
                  · ((try dsimp only at hSW); go_simp; try (with_reducible rfl))
                  simp only [Act.put, List.setIfInBounds_toArray, List.set_cons_zero, List.set_cons_succ]
                  -- op 9: Op.load 26 (tmp 7)
                  refine wpAnyT_take (i := 9) (v := undef) rfl (by kernel_rfl) (fun _ _ _ h => h) (Or.inr ⟨by kernel_rfl, rfl⟩) (by assumption) ?_
                  simp only [Act.put, List.setIfInBounds_toArray, List.set_cons_zero, List.set_cons_succ]
                  -- op 10: Op.call { callee := Callee.value (func 15), args := 
                  refine wpAnyT_take (i := 10) (v := undef) rfl (by kernel_rfl) (fun _ _ _ h => h) (Or.inr ⟨by kernel_rfl, rfl⟩) (by assumption) ?_
                  simp only [Act.put, List.setIfInBounds_toArray, List.set_cons_zero, List.set_cons_succ]
                  -- op 11: Op.fieldAddr 26 (tmp 7) 3
                  refine wpAnyT_take (i := 11) (v := undef) rfl (by kernel_rfl) (fun _ _ _ h => h) (Or.inr ⟨by kernel_rfl, rfl⟩) (by assumption) ?_
                  simp only [Act.put, List.setIfInBounds_toArray, List.set_cons_zero, List.set_cons_succ]
                  -- op 12: Op.load 3 (tmp 113)
                  refine wpAnyT_take (i := 12) (v := undef) rfl (by kernel_rfl) (fun _ _ _ h => h) (Or.inr ⟨by kernel_rfl, rfl⟩) (by assumption) ?_
                  simp only [Act.put, List.setIfInBounds_toArray, List.set_cons_zero, List.set_cons_succ]
                  -- op 13: Op.binOp BinOp.geq 3 (tmp 112) (tmp 114) 3
                  refine wpAnyT_take (i := 13) (v := undef) rfl (by kernel_rfl) (fun _ _ _ h => h) (Or.inr ⟨by kernel_rfl, rfl⟩) (by assumption) ?_
                  simp only [Act.put, List.setIfInBounds_toArray, List.set_cons_zero, List.set_cons_succ]
                  -- op 14: Op.move (tmp 115)
                  refine wpAnyT_take (i := 14) (v := undef) rfl (by kernel_rfl) (fun _ _ _ h => h) (Or.inr ⟨by kernel_rfl, rfl⟩) (by assumption) ?_
                  simp only [Act.put, List.setIfInBounds_toArray, List.set_cons_zero, List.set_cons_succ]
                  -- op 15: Op.load 26 (tmp 7)
                  refine wpAnyT_take (i := 15) (v := undef) rfl (by kernel_rfl) (fun _ _ _ h => h) (Or.inr ⟨by kernel_rfl, rfl⟩) (by assumption) ?_
                  simp only [Act.put, List.setIfInBounds_toArray, List.set_cons_zero, List.set_cons_succ]
                  -- op 16: Op.call { callee := Callee.value (func 15), args := 
                  refine wpAnyT_take (i := 16) (v := undef) rfl (by kernel_rfl) (fun _ _ _ h => h) (Or.inr ⟨by kernel_rfl, rfl⟩) (by assumption) ?_
                  simp only [Act.put, List.setIfInBounds_toArray, List.set_cons_zero, List.set_cons_succ]
                  -- op 17: Op.fieldAddr 26 (tmp 7) 4
                  refine wpAnyT_take (i := 17) (v := undef) rfl (by kernel_rfl) (fun _ _ _ h => h) (Or.inr ⟨by kernel_rfl, rfl⟩) (by assumption) ?_
                  simp only [Act.put, List.setIfInBounds_toArray, List.set_cons_zero, List.set_cons_succ]
                  -- op 18: Op.load 3 (tmp 119)
                  refine wpAnyT_take (i := 18) (v := undef) rfl (by kernel_rfl) (fun _ _ _ h => h) (Or.inr ⟨by kernel_rfl, rfl⟩) (by assumption) ?_
                  simp only [Act.put, List.setIfInBounds_toArray, List.set_cons_zero, List.set_cons_succ]
                  -- op 19: Op.binOp BinOp.leq 3 (tmp 118) (tmp 120) 3
                  refine wpAnyT_take (i := 19) (v := undef) rfl (by kernel_rfl) (fun _ _ _ h => h) (Or.inr ⟨by kernel_rfl, rfl⟩) (by assumption) ?_
                  simp only [Act.put, List.setIfInBounds_toArray, List.set_cons_zero, List.set_cons_succ]
                  -- op 20: Op.pick (tmp 116) (tmp 121) (const (
                  refine wpAnyT_take (i := 20) (v := undef) rfl (by kernel_rfl) (fun _ _ _ h => h) (Or.inr ⟨by kernel_rfl, rfl⟩) (by assumption) ?_
                  simp only [Act.put, List.setIfInBounds_toArray, List.set_cons_zero, List.set_cons_succ]
                  -- op 21: Op.pick (tmp 110) (const (Value.bool true)) 
                  refine wpAnyT_take (i := 21) (v := ?_) rfl (by kernel_rfl) (fun _ _ _ h => h) (Or.inl ⟨by kernel_rfl, fun W hSW => ?_⟩) (by assumption) ?_; rotate_left
                  · ((try dsimp only at hSW); go_simp; try (with_reducible rfl))
                  simp only [Act.put, List.setIfInBounds_toArray, List.set_cons_zero, List.set_cons_succ]
                  -- op 22: Op.pick (tmp 103) (tmp 123) (const (
                  refine wpAnyT_take (i := 22) (v := ?_) rfl (by kernel_rfl) (fun _ _ _ h => h) (Or.inl ⟨by kernel_rfl, fun W hSW => ?_⟩) (by assumption) ?_; rotate_left
                  · ((try dsimp only at hSW); go_simp; try (with_reducible rfl))
                  simp only [Act.put, List.setIfInBounds_toArray, List.set_cons_zero, List.set_cons_succ]
                  -- op 23: Op.assign (tmp 124)
                  refine wpAnyT_take (i := 23) (v := ?_) rfl (by kernel_rfl) (fun _ _ _ h => h) (Or.inl ⟨by kernel_rfl, fun W hSW => ?_⟩) (by assumption) ?_; rotate_left
                  · ((try dsimp only at hSW); go_simp; try (with_reducible rfl))
                  simp only [Act.put, List.setIfInBounds_toArray, List.set_cons_zero, List.set_cons_succ]
                  refine wpAnyT_done (by kernel_rfl) ?_ _
                  have hfin := hHeld.2.1
                  go_wp2
                  go_ret
                  exact ⟨rfl, hfin⟩
              · have f4 : (H == -1) = false := by simp; exact f3
                have f5 : (H == 0) = false := by simp; omega
                clear f0 f1
                by_cases hne : l.length = 0
                · have hl0 : ((l.length : Int) == 0) = true := by simpa using hne
                  have hl1 : (l.length == 0) = true := by simpa using hne
                  have hl2 : l = [] := List.eq_nil_of_length_eq_zero hne
                  have hl3 : l.isEmpty = true := by simpa using hl2
                  clear hl2
                  have hB := hB2.out
                  obtain ⟨c0, c1, c2, c3, c4⟩ := agg_cells hB
                  go_wp2_with fail
                  refine wp_region_T (S := (fun w' => w'.heap[w1.heap.size]? = some (.cells #[.int .i64 A.c, .int .i64 A.hi, .int .u64 A.lo, .int .i64 A.mn, .int .i64 A.mx] 26) ∧ Below w.heap.size w w' ∧ (w'.cell? ⟨w1.heap.size, 0, none⟩ = some (.int .i64 A.c) ∧ w'.cell? ⟨w1.heap.size, 1, none⟩ = some (.int .i64 A.hi) ∧ w'.cell? ⟨w1.heap.size, 2, none⟩ = some (.int .u64 A.lo) ∧ w'.cell? ⟨w1.heap.size, 3, none⟩ = some (.int .i64 A.mn) ∧ w'.cell? ⟨w1.heap.size, 4, none⟩ = some (.int .i64 A.mx)))) 24 (by kernel_rfl) ?_ (fun hHeld => ?_)
                  · (first | exact ⟨hB, hbel.drew, agg_cells hB⟩ | exact keep1 hHeld.1 hHeld.2.1 hb3)
                  -- op 0: Op.call { callee := Callee.value (func 10), args := 
                  refine wpAnyT_one (i := 0) rfl (by kernel_rfl) (fun K hK => ?_)
                  go_simp
                  (first | (go_at_call 10; refine (alive_any _).mono ?_; rintro e w3 ⟨rfl, hb3⟩) | (go_at_call 15; refine (mean_any A _ hok.out).mono ?_; rintro e w3 ⟨rfl, hb3⟩)); (try go_wp2_with fail)
                  refine hK.out _ _ ?_ (fun hHeld2 => ?_)
                  · (first | exact ⟨hB, hbel.drew, agg_cells hB⟩ | exact keep1 hHeld.1 hHeld.2.1 hb3)
                  clear hK K hHeld
                  have hHeld := hHeld2
                  clear hHeld2
                  try simp only [Act.put, List.setIfInBounds_toArray, List.set_cons_zero, List.set_cons_succ]
                  -- op 1: Op.move (tmp 102)
                  refine wpAnyT_take (i := 1) (v := ?_) rfl (by kernel_rfl) (fun _ _ _ h => h) (Or.inl ⟨by kernel_rfl, fun W hSW => ?_⟩) (by assumption) ?_; rotate_left
                  · ((try dsimp only at hSW); go_simp; try (with_reducible rfl))
                  simp only [Act.put, List.setIfInBounds_toArray, List.set_cons_zero, List.set_cons_succ]
                  -- op 2: Op.move (tmp 0)
                  refine wpAnyT_take (i := 2) (v := ?_) rfl (by kernel_rfl) (fun _ _ _ h => h) (Or.inl ⟨by kernel_rfl, fun W hSW => ?_⟩) (by assumption) ?_; rotate_left
                  · ((try dsimp only at hSW); go_simp; try (with_reducible rfl))
                  simp only [Act.put, List.setIfInBounds_toArray, List.set_cons_zero, List.set_cons_succ]
                  -- op 3: Op.call { callee := Callee.builtin Builtin.len, args := #[Op
                  refine wpAnyT_take (i := 3) (v := ?_) rfl (by kernel_rfl) (fun _ _ _ h => h) (Or.inl ⟨by kernel_rfl, fun W hSW => ?_⟩) (by assumption) ?_; rotate_left
                  · ((try dsimp only at hSW); go_simp; try (with_reducible rfl))
                  simp only [Act.put, List.setIfInBounds_toArray, List.set_cons_zero, List.set_cons_succ]
                  -- op 4: Op.binOp BinOp.eql 3 (tmp 105) (const (Value
                  refine wpAnyT_take (i := 4) (v := ?_) rfl (by kernel_rfl) (fun _ _ _ h => h) (Or.inl ⟨by kernel_rfl, fun W hSW => ?_⟩) (by assumption) ?_; rotate_left
                  · ((try dsimp only at hSW); go_simp; try (with_reducible rfl))
                  simp only [Act.put, List.setIfInBounds_toArray, List.set_cons_zero, List.set_cons_succ]
                  -- op 5: Op.move (tmp 106)
                  refine wpAnyT_take (i := 5) (v := ?_) rfl (by kernel_rfl) (fun _ _ _ h => h) (Or.inl ⟨by kernel_rfl, fun W hSW => ?_⟩) (by assumption) ?_; rotate_left
                  · ((try dsimp only at hSW); go_simp; try (with_reducible rfl))
                  simp only [Act.put, List.setIfInBounds_toArray, List.set_cons_zero, List.set_cons_succ]
                  -- op 6: Op.move (tmp 9)
                  refine wpAnyT_take (i := 6) (v := undef) rfl (by kernel_rfl) (fun _ _ _ h => h) (Or.inr ⟨by kernel_rfl, rfl⟩) (by assumption) ?_
                  simp only [Act.put, List.setIfInBounds_toArray, List.set_cons_zero, List.set_cons_succ]
                  -- op 7: Op.pick (tmp 107) (const (Value.bool true)) 
                  refine wpAnyT_take (i := 7) (v := ?_) rfl (by kernel_rfl) (fun _ _ _ h => h) (Or.inl ⟨by kernel_rfl, fun W hSW => ?_⟩) (by assumption) ?_; rotate_left
                  · ((try dsimp only at hSW); go_simp; try (with_reducible rfl))
                  simp only [Act.put, List.setIfInBounds_toArray, List.set_cons_zero, List.set_cons_succ]
                  -- op 8: Op.move (tmp 109)
                  refine wpAnyT_take (i := 8) (v := ?_) rfl (by kernel_rfl) (fun _ _ _ h => h) (Or.inl ⟨by kernel_rfl, fun W hSW => ?_⟩) (by assumption) ?_; rotate_left
                  · ((try dsimp only at hSW); go_simp; try (with_reducible rfl))
                  simp only [Act.put, List.setIfInBounds_toArray, List.set_cons_zero, List.set_cons_succ]
                  -- op 9: Op.load 26 (tmp 7)
                  refine wpAnyT_take (i := 9) (v := undef) rfl (by kernel_rfl) (fun _ _ _ h => h) (Or.inr ⟨by kernel_rfl, rfl⟩) (by assumption) ?_
                  simp only [Act.put, List.setIfInBounds_toArray, List.set_cons_zero, List.set_cons_succ]
                  -- op 10: Op.call { callee := Callee.value (func 15), args := 
                  refine wpAnyT_take (i := 10) (v := undef) rfl (by kernel_rfl) (fun _ _ _ h => h) (Or.inr ⟨by kernel_rfl, rfl⟩) (by assumption) ?_
                  simp only [Act.put, List.setIfInBounds_toArray, List.set_cons_zero, List.set_cons_succ]
                  -- op 11: Op.fieldAddr 26 (tmp 7) 3
                  refine wpAnyT_take (i := 11) (v := undef) rfl (by kernel_rfl) (fun _ _ _ h => h) (Or.inr ⟨by kernel_rfl, rfl⟩) (by assumption) ?_
                  simp only [Act.put, List.setIfInBounds_toArray, List.set_cons_zero, List.set_cons_succ]
                  -- op 12: Op.load 3 (tmp 113)
                  refine wpAnyT_take (i := 12) (v := undef) rfl (by kernel_rfl) (fun _ _ _ h => h) (Or.inr ⟨by kernel_rfl, rfl⟩) (by assumption) ?_
                  simp only [Act.put, List.setIfInBounds_toArray, List.set_cons_zero, List.set_cons_succ]
                  -- op 13: Op.binOp BinOp.geq 3 (tmp 112) (tmp 114) 3
                  refine wpAnyT_take (i := 13) (v := undef) rfl (by kernel_rfl) (fun _ _ _ h => h) (Or.inr ⟨by kernel_rfl, rfl⟩) (by assumption) ?_
                  simp only [Act.put, List.setIfInBounds_toArray, List.set_cons_zero, List.set_cons_succ]
                  -- op 14: Op.move (tmp 115)
                  refine wpAnyT_take (i := 14) (v := undef) rfl (by kernel_rfl) (fun _ _ _ h => h) (Or.inr ⟨by kernel_rfl, rfl⟩) (by assumption) ?_
                  simp only [Act.put, List.setIfInBounds_toArray, List.set_cons_zero, List.set_cons_succ]
                  -- op 15: Op.load 26 (tmp 7)
                  refine wpAnyT_take (i := 15) (v := undef) rfl (by kernel_rfl) (fun _ _ _ h => h) (Or.inr ⟨by kernel_rfl, rfl⟩) (by assumption) ?_
                  simp only [Act.put, List.setIfInBounds_toArray, List.set_cons_zero, List.set_cons_succ]
                  -- op 16: Op.call { callee := Callee.value (func 15), args := 
                  refine wpAnyT_take (i := 16) (v := undef) rfl (by kernel_rfl) (fun _ _ _ h => h) (Or.inr ⟨by kernel_rfl, rfl⟩) (by assumption) ?_
                  simp only [Act.put, List.setIfInBounds_toArray, List.set_cons_zero, List.set_cons_succ]
                  -- op 17: Op.fieldAddr 26 (tmp 7) 4
                  refine wpAnyT_take (i := 17) (v := undef) rfl (by kernel_rfl) (fun _ _ _ h => h) (Or.inr ⟨by kernel_rfl, rfl⟩) (by assumption) ?_
                  simp only [Act.put, List.setIfInBounds_toArray, List.set_cons_zero, List.set_cons_succ]
                  -- op 18: Op.load 3 (tmp 119)
                  refine wpAnyT_take (i := 18) (v := undef) rfl (by kernel_rfl) (fun _ _ _ h => h) (Or.inr ⟨by kernel_rfl, rfl⟩) (by assumption) ?_
                  simp only [Act.put, List.setIfInBounds_toArray, List.set_cons_zero, List.set_cons_succ]
                  -- op 19: Op.binOp BinOp.leq 3 (tmp 118) (tmp 120) 3
                  refine wpAnyT_take (i := 19) (v := undef) rfl (by kernel_rfl) (fun _ _ _ h => h) (Or.inr ⟨by kernel_rfl, rfl⟩) (by assumption) ?_
                  simp only [Act.put, List.setIfInBounds_toArray, List.set_cons_zero, List.set_cons_succ]
                  -- op 20: Op.pick (tmp 116) (tmp 121) (const (
                  refine wpAnyT_take (i := 20) (v := undef) rfl (by kernel_rfl) (fun _ _ _ h => h) (Or.inr ⟨by kernel_rfl, rfl⟩) (by assumption) ?_
                  simp only [Act.put, List.setIfInBounds_toArray, List.set_cons_zero, List.set_cons_succ]
                  -- op 21: Op.pick (tmp 110) (const (Value.bool true)) 
                  refine wpAnyT_take (i := 21) (v := ?_) rfl (by kernel_rfl) (fun _ _ _ h => h) (Or.inl ⟨by kernel_rfl, fun W hSW => ?_⟩) (by assumption) ?_; rotate_left
                  · ((try dsimp only at hSW); go_simp; try (with_reducible rfl))
                  simp only [Act.put, List.setIfInBounds_toArray, List.set_cons_zero, List.set_cons_succ]
                  -- op 22: Op.pick (tmp 103) (tmp 123) (const (
                  refine wpAnyT_take (i := 22) (v := ?_) rfl (by kernel_rfl) (fun _ _ _ h => h) (Or.inl ⟨by kernel_rfl, fun W hSW => ?_⟩) (by assumption) ?_; rotate_left
                  · ((try dsimp only at hSW); go_simp; try (with_reducible rfl))
                  simp only [Act.put, List.setIfInBounds_toArray, List.set_cons_zero, List.set_cons_succ]
                  -- op 23: Op.assign (tmp 124)
                  refine wpAnyT_take (i := 23) (v := ?_) rfl (by kernel_rfl) (fun _ _ _ h => h) (Or.inl ⟨by kernel_rfl, fun W hSW => ?_⟩) (by assumption) ?_; rotate_left
                  · ((try dsimp only at hSW); go_simp; try (with_reducible rfl))
                  simp only [Act.put, List.setIfInBounds_toArray, List.set_cons_zero, List.set_cons_succ]
                  refine wpAnyT_done (by kernel_rfl) ?_ _
                  have hfin := hHeld.2.1
                  go_wp2
                  go_ret
                  exact ⟨rfl, hfin⟩
                · have hl0 : ((l.length : Int) == 0) = false := by simpa using hne
                  have hl1 : (l.length == 0) = false := by simpa using hne
                  have hl3 : l.isEmpty = false := by simpa using hne
                  have hl2 : ¬ l = [] := by simpa using hne
                  have hB := hB2.out
                  obtain ⟨c0, c1, c2, c3, c4⟩ := agg_cells hB
                  go_wp2_with fail
                  refine wp_region_T (S := (fun w' => w'.heap[w1.heap.size]? = some (.cells #[.int .i64 A.c, .int .i64 A.hi, .int .u64 A.lo, .int .i64 A.mn, .int .i64 A.mx] 26) ∧ Below w.heap.size w w' ∧ (w'.cell? ⟨w1.heap.size, 0, none⟩ = some (.int .i64 A.c) ∧ w'.cell? ⟨w1.heap.size, 1, none⟩ = some (.int .i64 A.hi) ∧ w'.cell? ⟨w1.heap.size, 2, none⟩ = some (.int .u64 A.lo) ∧ w'.cell? ⟨w1.heap.size, 3, none⟩ = some (.int .i64 A.mn) ∧ w'.cell? ⟨w1.heap.size, 4, none⟩ = some (.int .i64 A.mx)))) 24 (by kernel_rfl) ?_ (fun hHeld => ?_)
                  · (first | exact ⟨hB, hbel.drew, agg_cells hB⟩ | exact keep1 hHeld.1 hHeld.2.1 hb3)
                  -- op 0: Op.call { callee := Callee.value (func 10), args := 
                  refine wpAnyT_one (i := 0) rfl (by kernel_rfl) (fun K hK => ?_)
                  go_simp
                  (first | (go_at_call 10; refine (alive_any _).mono ?_; rintro e w3 ⟨rfl, hb3⟩) | (go_at_call 15; refine (mean_any A _ hok.out).mono ?_; rintro e w3 ⟨rfl, hb3⟩)); (try go_wp2_with fail)
                  refine hK.out _ _ ?_ (fun hHeld2 => ?_)
                  · (first | exact ⟨hB, hbel.drew, agg_cells hB⟩ | exact keep1 hHeld.1 hHeld.2.1 hb3)
                  clear hK K hHeld
                  have hHeld := hHeld2
                  clear hHeld2
                  try simp only [Act.put, List.setIfInBounds_toArray, List.set_cons_zero, List.set_cons_succ]
                  -- op 1: Op.move (tmp 102)
                  refine wpAnyT_take (i := 1) (v := ?_) rfl (by kernel_rfl) (fun _ _ _ h => h) (Or.inl ⟨by kernel_rfl, fun W hSW => ?_⟩) (by assumption) ?_; rotate_left
                  · ((try dsimp only at hSW); go_simp; try (with_reducible rfl))
                  simp only [Act.put, List.setIfInBounds_toArray, List.set_cons_zero, List.set_cons_succ]
                  -- op 2: Op.move (tmp 0)
                  refine wpAnyT_take (i := 2) (v := ?_) rfl (by kernel_rfl) (fun _ _ _ h => h) (Or.inl ⟨by kernel_rfl, fun W hSW => ?_⟩) (by assumption) ?_; rotate_left
                  · ((try dsimp only at hSW); go_simp; try (with_reducible rfl))
                  simp only [Act.put, List.setIfInBounds_toArray, List.set_cons_zero, List.set_cons_succ]
                  -- op 3: Op.call { callee := Callee.builtin Builtin.len, args := #[Op
                  refine wpAnyT_take (i := 3) (v := ?_) rfl (by kernel_rfl) (fun _ _ _ h => h) (Or.inl ⟨by kernel_rfl, fun W hSW => ?_⟩) (by assumption) ?_; rotate_left
                  · ((try dsimp only at hSW); go_simp; try (with_reducible rfl))
                  simp only [Act.put, List.setIfInBounds_toArray, List.set_cons_zero, List.set_cons_succ]
                  -- op 4: Op.binOp BinOp.eql 3 (tmp 105) (const (Value
                  refine wpAnyT_take (i := 4) (v := ?_) rfl (by kernel_rfl) (fun _ _ _ h => h) (Or.inl ⟨by kernel_rfl, fun W hSW => ?_⟩) (by assumption) ?_; rotate_left
                  · ((try dsimp only at hSW); go_simp; try (with_reducible rfl))
                  simp only [Act.put, List.setIfInBounds_toArray, List.set_cons_zero, List.set_cons_succ]
                  -- op 5: Op.move (tmp 106)
                  refine wpAnyT_take (i := 5) (v := ?_) rfl (by kernel_rfl) (fun _ _ _ h => h) (Or.inl ⟨by kernel_rfl, fun W hSW => ?_⟩) (by assumption) ?_; rotate_left
                  · ((try dsimp only at hSW); go_simp; try (with_reducible rfl))
                  simp only [Act.put, List.setIfInBounds_toArray, List.set_cons_zero, List.set_cons_succ]
                  -- op 6: Op.move (tmp 9)
                  refine wpAnyT_take (i := 6) (v := ?_) rfl (by kernel_rfl) (fun _ _ _ h => h) (Or.inl ⟨by kernel_rfl, fun W hSW => ?_⟩) (by assumption) ?_; rotate_left
                  · ((try dsimp only at hSW); go_simp; try (with_reducible rfl))
                  simp only [Act.put, List.setIfInBounds_toArray, List.set_cons_zero, List.set_cons_succ]
                  -- op 7: Op.pick (tmp 107) (const (Value.bool true)) 
                  refine wpAnyT_take (i := 7) (v := ?_) rfl (by kernel_rfl) (fun _ _ _ h => h) (Or.inl ⟨by kernel_rfl, fun W hSW => ?_⟩) (by assumption) ?_; rotate_left
                  · ((try dsimp only at hSW); go_simp; try (with_reducible rfl))
                  simp only [Act.put, List.setIfInBounds_toArray, List.set_cons_zero, List.set_cons_succ]
                  -- op 8: Op.move (tmp 109)
                  refine wpAnyT_take (i := 8) (v := ?_) rfl (by kernel_rfl) (fun _ _ _ h => h) (Or.inl ⟨by kernel_rfl, fun W hSW => ?_⟩) (by assumption) ?_; rotate_left
                  · ((try dsimp only at hSW); go_simp; try (with_reducible rfl))
                  simp only [Act.put, List.setIfInBounds_toArray, List.set_cons_zero, List.set_cons_succ]
                  -- op 9: Op.load 26 (tmp 7)
                  refine wpAnyT_take (i := 9) (v := undef) rfl (by kernel_rfl) (fun _ _ _ h => h) (Or.inr ⟨by kernel_rfl, rfl⟩) (by assumption) ?_
                  simp only [Act.put, List.setIfInBounds_toArray, List.set_cons_zero, List.set_cons_succ]
                  -- op 10: Op.call { callee := Callee.value (func 15), args := 
                  refine wpAnyT_take (i := 10) (v := undef) rfl (by kernel_rfl) (fun _ _ _ h => h) (Or.inr ⟨by kernel_rfl, rfl⟩) (by assumption) ?_
                  simp only [Act.put, List.setIfInBounds_toArray, List.set_cons_zero, List.set_cons_succ]
                  -- op 11: Op.fieldAddr 26 (tmp 7) 3
                  refine wpAnyT_take (i := 11) (v := undef) rfl (by kernel_rfl) (fun _ _ _ h => h) (Or.inr ⟨by kernel_rfl, rfl⟩) (by assumption) ?_
                  simp only [Act.put, List.setIfInBounds_toArray, List.set_cons_zero, List.set_cons_succ]
                  -- op 12: Op.load 3 (tmp 113)
                  refine wpAnyT_take (i := 12) (v := undef) rfl (by kernel_rfl) (fun _ _ _ h => h) (Or.inr ⟨by kernel_rfl, rfl⟩) (by assumption) ?_
                  simp only [Act.put, List.setIfInBounds_toArray, List.set_cons_zero, List.set_cons_succ]
                  -- op 13: Op.binOp BinOp.geq 3 (tmp 112) (tmp 114) 3
                  refine wpAnyT_take (i := 13) (v := undef) rfl (by kernel_rfl) (fun _ _ _ h => h) (Or.inr ⟨by kernel_rfl, rfl⟩) (by assumption) ?_
                  simp only [Act.put, List.setIfInBounds_toArray, List.set_cons_zero, List.set_cons_succ]
                  -- op 14: Op.move (tmp 115)
                  refine wpAnyT_take (i := 14) (v := undef) rfl (by kernel_rfl) (fun _ _ _ h => h) (Or.inr ⟨by kernel_rfl, rfl⟩) (by assumption) ?_
                  simp only [Act.put, List.setIfInBounds_toArray, List.set_cons_zero, List.set_cons_succ]
                  -- op 15: Op.load 26 (tmp 7)
                  refine wpAnyT_take (i := 15) (v := undef) rfl (by kernel_rfl) (fun _ _ _ h => h) (Or.inr ⟨by kernel_rfl, rfl⟩) (by assumption) ?_
                  simp only [Act.put, List.setIfInBounds_toArray, List.set_cons_zero, List.set_cons_succ]
                  -- op 16: Op.call { callee := Callee.value (func 15), args := 
                  refine wpAnyT_take (i := 16) (v := undef) rfl (by kernel_rfl) (fun _ _ _ h => h) (Or.inr ⟨by kernel_rfl, rfl⟩) (by assumption) ?_
                  simp only [Act.put, List.setIfInBounds_toArray, List.set_cons_zero, List.set_cons_succ]
                  -- op 17: Op.fieldAddr 26 (tmp 7) 4
                  refine wpAnyT_take (i := 17) (v := undef) rfl (by kernel_rfl) (fun _ _ _ h => h) (Or.inr ⟨by kernel_rfl, rfl⟩) (by assumption) ?_
                  simp only [Act.put, List.setIfInBounds_toArray, List.set_cons_zero, List.set_cons_succ]
                  -- op 18: Op.load 3 (tmp 119)
                  refine wpAnyT_take (i := 18) (v := undef) rfl (by kernel_rfl) (fun _ _ _ h => h) (Or.inr ⟨by kernel_rfl, rfl⟩) (by assumption) ?_
                  simp only [Act.put, List.setIfInBounds_toArray, List.set_cons_zero, List.set_cons_succ]
                  -- op 19: Op.binOp BinOp.leq 3 (tmp 118) (tmp 120) 3
                  refine wpAnyT_take (i := 19) (v := undef) rfl (by kernel_rfl) (fun _ _ _ h => h) (Or.inr ⟨by kernel_rfl, rfl⟩) (by assumption) ?_
                  simp only [Act.put, List.setIfInBounds_toArray, List.set_cons_zero, List.set_cons_succ]
                  -- op 20: Op.pick (tmp 116) (tmp 121) (const (
                  refine wpAnyT_take (i := 20) (v := undef) rfl (by kernel_rfl) (fun _ _ _ h => h) (Or.inr ⟨by kernel_rfl, rfl⟩) (by assumption) ?_
                  simp only [Act.put, List.setIfInBounds_toArray, List.set_cons_zero, List.set_cons_succ]
                  -- op 21: Op.pick (tmp 110) (const (Value.bool true)) 
                  refine wpAnyT_take (i := 21) (v := ?_) rfl (by kernel_rfl) (fun _ _ _ h => h) (Or.inl ⟨by kernel_rfl, fun W hSW => ?_⟩) (by assumption) ?_; rotate_left
                  · ((try dsimp only at hSW); go_simp; try (with_reducible rfl))
                  simp only [Act.put, List.setIfInBounds_toArray, List.set_cons_zero, List.set_cons_succ]
                  -- op 22: Op.pick (tmp 103) (tmp 123) (const (
                  refine wpAnyT_take (i := 22) (v := ?_) rfl (by kernel_rfl) (fun _ _ _ h => h) (Or.inl ⟨by kernel_rfl, fun W hSW => ?_⟩) (by assumption) ?_; rotate_left
                  · ((try dsimp only at hSW); go_simp; try (with_reducible rfl))
                  simp only [Act.put, List.setIfInBounds_toArray, List.set_cons_zero, List.set_cons_succ]
                  -- op 23: Op.assign (tmp 124)
                  refine wpAnyT_take (i := 23) (v := ?_) rfl (by kernel_rfl) (fun _ _ _ h => h) (Or.inl ⟨by kernel_rfl, fun W hSW => ?_⟩) (by assumption) ?_; rotate_left
                  · ((try dsimp only at hSW); go_simp; try (with_reducible rfl))
                  simp only [Act.put, List.setIfInBounds_toArray, List.set_cons_zero, List.set_cons_succ]
                  refine wpAnyT_done (by kernel_rfl) ?_ _
                  have hfin := hHeld.2.1
                  go_wp2
                  go_ret
                  exact ⟨rfl, hfin⟩
            · rw [if_neg f2] at hs
              rw [hs]
              clear hs
              by_cases f3 : H = 0
              · have f4 : 9223372036854775808 ≤ L := by omega
                subst f3
                clear f0 f1
                by_cases hne : l.length = 0
                · have hl0 : ((l.length : Int) == 0) = true := by simpa using hne
                  have hl1 : (l.length == 0) = true := by simpa using hne
                  have hl2 : l = [] := List.eq_nil_of_length_eq_zero hne
                  have hl3 : l.isEmpty = true := by simpa using hl2
                  clear hl2
                  have hB := hB2.out
                  obtain ⟨c0, c1, c2, c3, c4⟩ := agg_cells hB
                  go_wp2_with fail
                  refine wp_region_T (S := (fun w' => w'.heap[w1.heap.size]? = some (.cells #[.int .i64 A.c, .int .i64 A.hi, .int .u64 A.lo, .int .i64 A.mn, .int .i64 A.mx] 26) ∧ Below w.heap.size w w' ∧ (w'.cell? ⟨w1.heap.size, 0, none⟩ = some (.int .i64 A.c) ∧ w'.cell? ⟨w1.heap.size, 1, none⟩ = some (.int .i64 A.hi) ∧ w'.cell? ⟨w1.heap.size, 2, none⟩ = some (.int .u64 A.lo) ∧ w'.cell? ⟨w1.heap.size, 3, none⟩ = some (.int .i64 A.mn) ∧ w'.cell? ⟨w1.heap.size, 4, none⟩ = some (.int .i64 A.mx)))) 24 (by kernel_rfl) ?_ (fun hHeld => ?_)
                  · (first | exact ⟨hB, hbel.drew, agg_cells hB⟩ | exact keep1 hHeld.1 hHeld.2.1 hb3)
                  -- op 0: Op.call { callee := Callee.value (func 10), args := 
                  refine wpAnyT_one (i := 0) rfl (by kernel_rfl) (fun K hK => ?_)
                  go_simp
                  (first | (go_at_call 10; refine (alive_any _).mono ?_; rintro e w3 ⟨rfl, hb3⟩) | (go_at_call 15; refine (mean_any A _ hok.out).mono ?_; rintro e w3 ⟨rfl, hb3⟩)); (try go_wp2_with fail)
                  refine hK.out _ _ ?_ (fun hHeld2 => ?_)
                  · (first | exact ⟨hB, hbel.drew, agg_cells hB⟩ | exact keep1 hHeld.1 hHeld.2.1 hb3)
                  clear hK K hHeld
                  have hHeld := hHeld2
                  clear hHeld2
                  try simp only [Act.put, List.setIfInBounds_toArray, List.set_cons_zero, List.set_cons_succ]
                  -- op 1: Op.move (tmp 102)
                  refine wpAnyT_take (i := 1) (v := ?_) rfl (by kernel_rfl) (fun _ _ _ h => h) (Or.inl ⟨by kernel_rfl, fun W hSW => ?_⟩) (by assumption) ?_; rotate_left
                  · ((try dsimp only at hSW); go_simp; try (with_reducible rfl))
                  simp only [Act.put, List.setIfInBounds_toArray, List.set_cons_zero, List.set_cons_succ]
                  -- op 2: Op.move (tmp 0)
                  refine wpAnyT_take (i := 2) (v := ?_) rfl (by kernel_rfl) (fun _ _ _ h => h) (Or.inl ⟨by kernel_rfl, fun W hSW => ?_⟩) (by assumption) ?_; rotate_left
                  · ((try dsimp only at hSW); go_simp; try (with_reducible rfl))
                  simp only [Act.put, List.setIfInBounds_toArray, List.set_cons_zero, List.set_cons_succ]
                  -- op 3: Op.call { callee := Callee.builtin Builtin.len, args := #[Op
                  refine wpAnyT_take (i := 3) (v := ?_) rfl (by kernel_rfl) (fun _ _ _ h => h) (Or.inl ⟨by kernel_rfl, fun W hSW => ?_⟩) (by assumption) ?_; rotate_left
                  · ((try dsimp only at hSW); go_simp; try (with_reducible rfl))
                  simp only [Act.put, List.setIfInBounds_toArray, List.set_cons_zero, List.set_cons_succ]
                  -- op 4: Op.binOp BinOp.eql 3 (tmp 105) (const (Value
                  refine wpAnyT_take (i := 4) (v := ?_) rfl (by kernel_rfl) (fun _ _ _ h => h) (Or.inl ⟨by kernel_rfl, fun W hSW => ?_⟩) (by assumption) ?_; rotate_left
                  · ((try dsimp only at hSW); go_simp; try (with_reducible rfl))
                  simp only [Act.put, List.setIfInBounds_toArray, List.set_cons_zero, List.set_cons_succ]
                  -- op 5: Op.move (tmp 106)
                  refine wpAnyT_take (i := 5) (v := ?_) rfl (by kernel_rfl) (fun _ _ _ h => h) (Or.inl ⟨by kernel_rfl, fun W hSW => ?_⟩) (by assumption) ?_; rotate_left
                  · ((try dsimp only at hSW); go_simp; try (with_reducible rfl))
                  simp only [Act.put, List.setIfInBounds_toArray, List.set_cons_zero, List.set_cons_succ]
                  -- op 6: Op.move (tmp 9)
                  refine wpAnyT_take (i := 6) (v := undef) rfl (by kernel_rfl) (fun _ _ _ h => h) (Or.inr ⟨by kernel_rfl, rfl⟩) (by assumption) ?_
                  simp only [Act.put, List.setIfInBounds_toArray, List.set_cons_zero, List.set_cons_succ]
                  -- op 7: Op.pick (tmp 107) (const (Value.bool true)) 
                  refine wpAnyT_take (i := 7) (v := ?_) rfl (by kernel_rfl) (fun _ _ _ h => h) (Or.inl ⟨by kernel_rfl, fun W hSW => ?_⟩) (by assumption) ?_; rotate_left
                  · ((try dsimp only at hSW); go_simp; try (with_reducible rfl))
                  simp only [Act.put, List.setIfInBounds_toArray, List.set_cons_zero, List.set_cons_succ]
                  -- op 8: Op.move (tmp 109)
                  refine wpAnyT_take (i := 8) (v := ?_) rfl (by kernel_rfl) (fun _ _ _ h => h) (Or.inl ⟨by kernel_rfl, fun W hSW => ?_⟩) (by assumption) ?_; rotate_left
                  · ((try dsimp only at hSW); go_simp; try (with_reducible rfl))
                  simp only [Act.put, List.setIfInBounds_toArray, List.set_cons_zero, List.set_cons_succ]
                  -- op 9: Op.load 26 (tmp 7)
                  refine wpAnyT_take (i := 9) (v := undef) rfl (by kernel_rfl) (fun _ _ _ h => h) (Or.inr ⟨by kernel_rfl, rfl⟩) (by assumption) ?_
                  simp only [Act.put, List.setIfInBounds_toArray, List.set_cons_zero, List.set_cons_succ]
                  -- op 10: Op.call { callee := Callee.value (func 15), args := 
                  refine wpAnyT_take (i := 10) (v := undef) rfl (by kernel_rfl) (fun _ _ _ h => h) (Or.inr ⟨by kernel_rfl, rfl⟩) (by assumption) ?_
                  simp only [Act.put, List.setIfInBounds_toArray, List.set_cons_zero, List.set_cons_succ]
                  -- op 11: Op.fieldAddr 26 (tmp 7) 3
                  refine wpAnyT_take (i := 11) (v := undef) rfl (by kernel_rfl) (fun _ _ _ h => h) (Or.inr ⟨by kernel_rfl, rfl⟩) (by assumption) ?_
                  simp only [Act.put, List.setIfInBounds_toArray, List.set_cons_zero, List.set_cons_succ]
                  -- op 12: Op.load 3 (tmp 113)
                  refine wpAnyT_take (i := 12) (v := undef) rfl (by kernel_rfl) (fun _ _ _ h => h) (Or.inr ⟨by kernel_rfl, rfl⟩) (by assumption) ?_
                  simp only [Act.put, List.setIfInBounds_toArray, List.set_cons_zero, List.set_cons_succ]
                  -- op 13: Op.binOp BinOp.geq 3 (tmp 112) (tmp 114) 3
                  refine wpAnyT_take (i := 13) (v := undef) rfl (by kernel_rfl) (fun _ _ _ h => h) (Or.inr ⟨by kernel_rfl, rfl⟩) (by assumption) ?_
                  simp only [Act.put, List.setIfInBounds_toArray, List.set_cons_zero, List.set_cons_succ]
                  -- op 14: Op.move (tmp 115)
                  refine wpAnyT_take (i := 14) (v := undef) rfl (by kernel_rfl) (fun _ _ _ h => h) (Or.inr ⟨by kernel_rfl, rfl⟩) (by assumption) ?_
                  simp only [Act.put, List.setIfInBounds_toArray, List.set_cons_zero, List.set_cons_succ]
                  -- op 15: Op.load 26 (tmp 7)
                  refine wpAnyT_take (i := 15) (v := undef) rfl (by kernel_rfl) (fun _ _ _ h => h) (Or.inr ⟨by kernel_rfl, rfl⟩) (by assumption) ?_
                  simp only [Act.put, List.setIfInBounds_toArray, List.set_cons_zero, List.set_cons_succ]
                  -- op 16: Op.call { callee := Callee.value (func 15), args := 
                  refine wpAnyT_take (i := 16) (v := undef) rfl (by kernel_rfl) (fun _ _ _ h => h) (Or.inr ⟨by kernel_rfl, rfl⟩) (by assumption) ?_
                  simp only [Act.put, List.setIfInBounds_toArray, List.set_cons_zero, List.set_cons_succ]
                  -- op 17: Op.fieldAddr 26 (tmp 7) 4
                  refine wpAnyT_take (i := 17) (v := undef) rfl (by kernel_rfl) (fun _ _ _ h => h) (Or.inr ⟨by kernel_rfl, rfl⟩) (by assumption) ?_
                  simp only [Act.put, List.setIfInBounds_toArray, List.set_cons_zero, List.set_cons_succ]
                  -- op 18: Op.load 3 (tmp 119)
                  refine wpAnyT_take (i := 18) (v := undef) rfl (by kernel_rfl) (fun _ _ _ h => h) (Or.inr ⟨by kernel_rfl, rfl⟩) (by assumption) ?_
                  simp only [Act.put, List.setIfInBounds_toArray, List.set_cons_zero, List.set_cons_succ]
                  -- op 19: Op.binOp BinOp.leq 3 (tmp 118) (tmp 120) 3
                  refine wpAnyT_take (i := 19) (v := undef) rfl (by kernel_rfl) (fun _ _ _ h => h) (Or.inr ⟨by kernel_rfl, rfl⟩) (by assumption) ?_
                  simp only [Act.put, List.setIfInBounds_toArray, List.set_cons_zero, List.set_cons_succ]
                  -- op 20: Op.pick (tmp 116) (tmp 121) (const (
                  refine wpAnyT_take (i := 20) (v := undef) rfl (by kernel_rfl) (fun _ _ _ h => h) (Or.inr ⟨by kernel_rfl, rfl⟩) (by assumption) ?_
                  simp only [Act.put, List.setIfInBounds_toArray, List.set_cons_zero, List.set_cons_succ]
                  -- op 21: Op.pick (tmp 110) (const (Value.bool true)) 
                  refine wpAnyT_take (i := 21) (v := ?_) rfl (by kernel_rfl) (fun _ _ _ h => h) (Or.inl ⟨by kernel_rfl, fun W hSW => ?_⟩) (by assumption) ?_; rotate_left
                  · ((try dsimp only at hSW); go_simp; try (with_reducible rfl))
                  simp only [Act.put, List.setIfInBounds_toArray, List.set_cons_zero, List.set_cons_succ]
                  -- op 22: Op.pick (tmp 103) (tmp 123) (const (
                  refine wpAnyT_take (i := 22) (v := ?_) rfl (by kernel_rfl) (fun _ _ _ h => h) (Or.inl ⟨by kernel_rfl, fun W hSW => ?_⟩) (by assumption) ?_; rotate_left
                  · ((try dsimp only at hSW); go_simp; try (with_reducible rfl))
                  simp only [Act.put, List.setIfInBounds_toArray, List.set_cons_zero, List.set_cons_succ]
                  -- op 23: Op.assign (tmp 124)
                  refine wpAnyT_take (i := 23) (v := ?_) rfl (by kernel_rfl) (fun _ _ _ h => h) (Or.inl ⟨by kernel_rfl, fun W hSW => ?_⟩) (by assumption) ?_; rotate_left
                  · ((try dsimp only at hSW); go_simp; try (with_reducible rfl))
                  simp only [Act.put, List.setIfInBounds_toArray, List.set_cons_zero, List.set_cons_succ]
                  refine wpAnyT_done (by kernel_rfl) ?_ _
                  have hfin := hHeld.2.1
                  go_wp2
                  go_ret
                  exact ⟨rfl, hfin⟩
                · have hl0 : ((l.length : Int) == 0) = false := by simpa using hne
                  have hl1 : (l.length == 0) = false := by simpa using hne
                  have hl3 : l.isEmpty = false := by simpa using hne
                  have hl2 : ¬ l = [] := by simpa using hne
                  have hB := hB2.out
                  obtain ⟨c0, c1, c2, c3, c4⟩ := agg_cells hB
                  go_wp2_with fail
                  refine wp_region_T (S := (fun w' => w'.heap[w1.heap.size]? = some (.cells #[.int .i64 A.c, .int .i64 A.hi, .int .u64 A.lo, .int .i64 A.mn, .int .i64 A.mx] 26) ∧ Below w.heap.size w w' ∧ (w'.cell? ⟨w1.heap.size, 0, none⟩ = some (.int .i64 A.c) ∧ w'.cell? ⟨w1.heap.size, 1, none⟩ = some (.int .i64 A.hi) ∧ w'.cell? ⟨w1.heap.size, 2, none⟩ = some (.int .u64 A.lo) ∧ w'.cell? ⟨w1.heap.size, 3, none⟩ = some (.int .i64 A.mn) ∧ w'.cell? ⟨w1.heap.size, 4, none⟩ = some (.int .i64 A.mx)))) 24 (by kernel_rfl) ?_ (fun hHeld => ?_)
                  · (first | exact ⟨hB, hbel.drew, agg_cells hB⟩ | exact keep1 hHeld.1 hHeld.2.1 hb3)
                  -- op 0: Op.call { callee := Callee.value (func 10), args := 
                  refine wpAnyT_one (i := 0) rfl (by kernel_rfl) (fun K hK => ?_)
                  go_simp
                  (first | (go_at_call 10; refine (alive_any _).mono ?_; rintro e w3 ⟨rfl, hb3⟩) | (go_at_call 15; refine (mean_any A _ hok.out).mono ?_; rintro e w3 ⟨rfl, hb3⟩)); (try go_wp2_with fail)
                  refine hK.out _ _ ?_ (fun hHeld2 => ?_)
                  · (first | exact ⟨hB, hbel.drew, agg_cells hB⟩ | exact keep1 hHeld.1 hHeld.2.1 hb3)
                  clear hK K hHeld
                  have hHeld := hHeld2
                  clear hHeld2
                  try simp only [Act.put, List.setIfInBounds_toArray, List.set_cons_zero, List.set_cons_succ]
                  -- op 1: Op.move (tmp 102)
                  refine wpAnyT_take (i := 1) (v := ?_) rfl (by kernel_rfl) (fun _ _ _ h => h) (Or.inl ⟨by kernel_rfl, fun W hSW => ?_⟩) (by assumption) ?_; rotate_left
                  · ((try dsimp only at hSW); go_simp; try (with_reducible rfl))
                  simp only [Act.put, List.setIfInBounds_toArray, List.set_cons_zero, List.set_cons_succ]
                  -- op 2: Op.move (tmp 0)
                  refine wpAnyT_take (i := 2) (v := ?_) rfl (by kernel_rfl) (fun _ _ _ h => h) (Or.inl ⟨by kernel_rfl, fun W hSW => ?_⟩) (by assumption) ?_; rotate_left
                  · ((try dsimp only at hSW); go_simp; try (with_reducible rfl))
                  simp only [Act.put, List.setIfInBounds_toArray, List.set_cons_zero, List.set_cons_succ]
                  -- op 3: Op.call { callee := Callee.builtin Builtin.len, args := #[Op
                  refine wpAnyT_take (i := 3) (v := ?_) rfl (by kernel_rfl) (fun _ _ _ h => h) (Or.inl ⟨by kernel_rfl, fun W hSW => ?_⟩) (by assumption) ?_; rotate_left
                  · ((try dsimp only at hSW); go_simp; try (with_reducible rfl))
                  simp only [Act.put, List.setIfInBounds_toArray, List.set_cons_zero, List.set_cons_succ]
                  -- op 4: Op.binOp BinOp.eql 3 (tmp 105) (const (Value
                  refine wpAnyT_take (i := 4) (v := ?_) rfl (by kernel_rfl) (fun _ _ _ h => h) (Or.inl ⟨by kernel_rfl, fun W hSW => ?_⟩) (by assumption) ?_; rotate_left
                  · ((try dsimp only at hSW); go_simp; try (with_reducible rfl))
                  simp only [Act.put, List.setIfInBounds_toArray, List.set_cons_zero, List.set_cons_succ]
                  -- op 5: Op.move (tmp 106)
                  refine wpAnyT_take (i := 5) (v := ?_) rfl (by kernel_rfl) (fun _ _ _ h => h) (Or.inl ⟨by kernel_rfl, fun W hSW => ?_⟩) (by assumption) ?_; rotate_left
                  · ((try dsimp only at hSW); go_simp; try (with_reducible rfl))
                  simp only [Act.put, List.setIfInBounds_toArray, List.set_cons_zero, List.set_cons_succ]
                  -- op 6: Op.move (tmp 9)
                  refine wpAnyT_take (i := 6) (v := ?_) rfl (by kernel_rfl) (fun _ _ _ h => h) (Or.inl ⟨by kernel_rfl, fun W hSW => ?_⟩) (by assumption) ?_; rotate_left
                  · ((try dsimp only at hSW); go_simp; try (with_reducible rfl))
                  simp only [Act.put, List.setIfInBounds_toArray, List.set_cons_zero, List.set_cons_succ]
                  -- op 7: Op.pick (tmp 107) (const (Value.bool true)) 
                  refine wpAnyT_take (i := 7) (v := ?_) rfl (by kernel_rfl) (fun _ _ _ h => h) (Or.inl ⟨by kernel_rfl, fun W hSW => ?_⟩) (by assumption) ?_; rotate_left
                  · ((try dsimp only at hSW); go_simp; try (with_reducible rfl))
                  simp only [Act.put, List.setIfInBounds_toArray, List.set_cons_zero, List.set_cons_succ]
                  -- op 8: Op.move (tmp 109)
                  refine wpAnyT_take (i := 8) (v := ?_) rfl (by kernel_rfl) (fun _ _ _ h => h) (Or.inl ⟨by kernel_rfl, fun W hSW => ?_⟩) (by assumption) ?_; rotate_left
                  · ((try dsimp only at hSW); go_simp; try (with_reducible rfl))
                  simp only [Act.put, List.setIfInBounds_toArray, List.set_cons_zero, List.set_cons_succ]
                  -- op 9: Op.load 26 (tmp 7)
                  refine wpAnyT_take (i := 9) (v := undef) rfl (by kernel_rfl) (fun _ _ _ h => h) (Or.inr ⟨by kernel_rfl, rfl⟩) (by assumption) ?_
                  simp only [Act.put, List.setIfInBounds_toArray, List.set_cons_zero, List.set_cons_succ]
                  -- op 10: Op.call { callee := Callee.value (func 15), args := 
                  refine wpAnyT_take (i := 10) (v := undef) rfl (by kernel_rfl) (fun _ _ _ h => h) (Or.inr ⟨by kernel_rfl, rfl⟩) (by assumption) ?_
                  simp only [Act.put, List.setIfInBounds_toArray, List.set_cons_zero, List.set_cons_succ]
                  -- op 11: Op.fieldAddr 26 (tmp 7) 3
                  refine wpAnyT_take (i := 11) (v := undef) rfl (by kernel_rfl) (fun _ _ _ h => h) (Or.inr ⟨by kernel_rfl, rfl⟩) (by assumption) ?_
                  simp only [Act.put, List.setIfInBounds_toArray, List.set_cons_zero, List.set_cons_succ]
                  -- op 12: Op.load 3 (tmp 113)
                  refine wpAnyT_take (i := 12) (v := undef) rfl (by kernel_rfl) (fun _ _ _ h => h) (Or.inr ⟨by kernel_rfl, rfl⟩) (by assumption) ?_
                  simp only [Act.put, List.setIfInBounds_toArray, List.set_cons_zero, List.set_cons_succ]
                  -- op 13: Op.binOp BinOp.geq 3 (tmp 112) (tmp 114) 3
                  refine wpAnyT_take (i := 13) (v := undef) rfl (by kernel_rfl) (fun _ _ _ h => h) (Or.inr ⟨by kernel_rfl, rfl⟩) (by assumption) ?_
                  simp only [Act.put, List.setIfInBounds_toArray, List.set_cons_zero, List.set_cons_succ]
                  -- op 14: Op.move (tmp 115)
                  refine wpAnyT_take (i := 14) (v := undef) rfl (by kernel_rfl) (fun _ _ _ h => h) (Or.inr ⟨by kernel_rfl, rfl⟩) (by assumption) ?_
                  simp only [Act.put, List.setIfInBounds_toArray, List.set_cons_zero, List.set_cons_succ]
                  -- op 15: Op.load 26 (tmp 7)
                  refine wpAnyT_take (i := 15) (v := undef) rfl (by kernel_rfl) (fun _ _ _ h => h) (Or.inr ⟨by kernel_rfl, rfl⟩) (by assumption) ?_
                  simp only [Act.put, List.setIfInBounds_toArray, List.set_cons_zero, List.set_cons_succ]
                  -- op 16: Op.call { callee := Callee.value (func 15), args := 
                  refine wpAnyT_take (i := 16) (v := undef) rfl (by kernel_rfl) (fun _ _ _ h => h) (Or.inr ⟨by kernel_rfl, rfl⟩) (by assumption) ?_
                  simp only [Act.put, List.setIfInBounds_toArray, List.set_cons_zero, List.set_cons_succ]
                  -- op 17: Op.fieldAddr 26 (tmp 7) 4
                  refine wpAnyT_take (i := 17) (v := undef) rfl (by kernel_rfl) (fun _ _ _ h => h) (Or.inr ⟨by kernel_rfl, rfl⟩) (by assumption) ?_
                  simp only [Act.put, List.setIfInBounds_toArray, List.set_cons_zero, List.set_cons_succ]
                  -- op 18: Op.load 3 (tmp 119)
                  refine wpAnyT_take (i := 18) (v := undef) rfl (by kernel_rfl) (fun _ _ _ h => h) (Or.inr ⟨by kernel_rfl, rfl⟩) (by assumption) ?_
                  simp only [Act.put, List.setIfInBounds_toArray, List.set_cons_zero, List.set_cons_succ]
                  -- op 19: Op.binOp BinOp.leq 3 (tmp 118) (tmp 120) 3
                  refine wpAnyT_take (i := 19) (v := undef) rfl (by kernel_rfl) (fun _ _ _ h => h) (Or.inr ⟨by kernel_rfl, rfl⟩) (by assumption) ?_
                  simp only [Act.put, List.setIfInBounds_toArray, List.set_cons_zero, List.set_cons_succ]
                  -- op 20: Op.pick (tmp 116) (tmp 121) (const (
                  refine wpAnyT_take (i := 20) (v := undef) rfl (by kernel_rfl) (fun _ _ _ h => h) (Or.inr ⟨by kernel_rfl, rfl⟩) (by assumption) ?_
                  simp only [Act.put, List.setIfInBounds_toArray, List.set_cons_zero, List.set_cons_succ]
                  -- op 21: Op.pick (tmp 110) (const (Value.bool true)) 
                  refine wpAnyT_take (i := 21) (v := ?_) rfl (by kernel_rfl) (fun _ _ _ h => h) (Or.inl ⟨by kernel_rfl, fun W hSW => ?_⟩) (by assumption) ?_; rotate_left
                  · ((try dsimp only at hSW); go_simp; try (with_reducible rfl))
                  simp only [Act.put, List.setIfInBounds_toArray, List.set_cons_zero, List.set_cons_succ]
                  -- op 22: Op.pick (tmp 103) (tmp 123) (const (
                  refine wpAnyT_take (i := 22) (v := ?_) rfl (by kernel_rfl) (fun _ _ _ h => h) (Or.inl ⟨by kernel_rfl, fun W hSW => ?_⟩) (by assumption) ?_; rotate_left
                  · ((try dsimp only at hSW); go_simp; try (with_reducible rfl))
                  simp only [Act.put, List.setIfInBounds_toArray, List.set_cons_zero, List.set_cons_succ]
                  -- op 23: Op.assign (tmp 124)
                  refine wpAnyT_take (i := 23) (v := ?_) rfl (by kernel_rfl) (fun _ _ _ h => h) (Or.inl ⟨by kernel_rfl, fun W hSW => ?_⟩) (by assumption) ?_; rotate_left
                  · ((try dsimp only at hSW); go_simp; try (with_reducible rfl))
                  simp only [Act.put, List.setIfInBounds_toArray, List.set_cons_zero, List.set_cons_succ]
                  refine wpAnyT_done (by kernel_rfl) ?_ _
                  have hfin := hHeld.2.1
                  go_wp2
                  go_ret
                  exact ⟨rfl, hfin⟩
              · have f4 : (H == -1) = false := by simp; omega
                have f5 : (H == 0) = false := by simp; exact f3
                clear f0 f1
                by_cases hne : l.length = 0
                · have hl0 : ((l.length : Int) == 0) = true := by simpa using hne
                  have hl1 : (l.length == 0) = true := by simpa using hne
                  have hl2 : l = [] := List.eq_nil_of_length_eq_zero hne
                  have hl3 : l.isEmpty = true := by simpa using hl2
                  clear hl2
                  have hB := hB2.out
                  obtain ⟨c0, c1, c2, c3, c4⟩ := agg_cells hB
                  go_wp2_with fail
                  refine wp_region_T (S := (fun w' => w'.heap[w1.heap.size]? = some (.cells #[.int .i64 A.c, .int .i64 A.hi, .int .u64 A.lo, .int .i64 A.mn, .int .i64 A.mx] 26) ∧ Below w.heap.size w w' ∧ (w'.cell? ⟨w1.heap.size, 0, none⟩ = some (.int .i64 A.c) ∧ w'.cell? ⟨w1.heap.size, 1, none⟩ = some (.int .i64 A.hi) ∧ w'.cell? ⟨w1.heap.size, 2, none⟩ = some (.int .u64 A.lo) ∧ w'.cell? ⟨w1.heap.size, 3, none⟩ = some (.int .i64 A.mn) ∧ w'.cell? ⟨w1.heap.size, 4, none⟩ = some (.int .i64 A.mx)))) 24 (by kernel_rfl) ?_ (fun hHeld => ?_)
                  · (first | exact ⟨hB, hbel.drew, agg_cells hB⟩ | exact keep1 hHeld.1 hHeld.2.1 hb3)
                  -- op 0: Op.call { callee := Callee.value (func 10), args := 
                  refine wpAnyT_one (i := 0) rfl (by kernel_rfl) (fun K hK => ?_)
                  go_simp
                  (first | (go_at_call 10; refine (alive_any _).mono ?_; rintro e w3 ⟨rfl, hb3⟩) | (go_at_call 15; refine (mean_any A _ hok.out).mono ?_; rintro e w3 ⟨rfl, hb3⟩)); (try go_wp2_with fail)
                  refine hK.out _ _ ?_ (fun hHeld2 => ?_)
                  · (first | exact ⟨hB, hbel.drew, agg_cells hB⟩ | exact keep1 hHeld.1 hHeld.2.1 hb3)
                  clear hK K hHeld
                  have hHeld := hHeld2
                  clear hHeld2
                  try simp only [Act.put, List.setIfInBounds_toArray, List.set_cons_zero, List.set_cons_succ]
                  -- op 1: Op.move (tmp 102)
                  refine wpAnyT_take (i := 1) (v := ?_) rfl (by kernel_rfl) (fun _ _ _ h => h) (Or.inl ⟨by kernel_rfl, fun W hSW => ?_⟩) (by assumption) ?_; rotate_left
                  · ((try dsimp only at hSW); go_simp; try (with_reducible rfl))
                  simp only [Act.put, List.setIfInBounds_toArray, List.set_cons_zero, List.set_cons_succ]
                  -- op 2: Op.move (tmp 0)
                  refine wpAnyT_take (i := 2) (v := ?_) rfl (by kernel_rfl) (fun _ _ _ h => h) (Or.inl ⟨by kernel_rfl, fun W hSW => ?_⟩) (by assumption) ?_; rotate_left
                  · ((try dsimp only at hSW); go_simp; try (with_reducible rfl))
                  simp only [Act.put, List.setIfInBounds_toArray, List.set_cons_zero, List.set_cons_succ]
                  -- op 3: Op.call { callee := Callee.builtin Builtin.len, args := #[Op
                  refine wpAnyT_take (i := 3) (v := ?_) rfl (by kernel_rfl) (fun _ _ _ h => h) (Or.inl ⟨by kernel_rfl, fun W hSW => ?_⟩) (by assumption) ?_; rotate_left
                  · ((try dsimp only at hSW); go_simp; try (with_reducible rfl))
                  simp only [Act.put, List.setIfInBounds_toArray, List.set_cons_zero, List.set_cons_succ]
                  -- op 4: Op.binOp BinOp.eql 3 (tmp 105) (const (Value
                  refine wpAnyT_take (i := 4) (v := ?_) rfl (by kernel_rfl) (fun _ _ _ h => h) (Or.inl ⟨by kernel_rfl, fun W hSW => ?_⟩) (by assumption) ?_; rotate_left
                  · ((try dsimp only at hSW); go_simp; try (with_reducible rfl))
                  simp only [Act.put, List.setIfInBounds_toArray, List.set_cons_zero, List.set_cons_succ]
                  -- op 5: Op.move (tmp 106)
                  refine wpAnyT_take (i := 5) (v := ?_) rfl (by kernel_rfl) (fun _ _ _ h => h) (Or.inl ⟨by kernel_rfl, fun W hSW => ?_⟩) (by assumption) ?_; rotate_left
                  · ((try dsimp only at hSW); go_simp; try (with_reducible rfl))
                  simp only [Act.put, List.setIfInBounds_toArray, List.set_cons_zero, List.set_cons_succ]
                  -- op 6: Op.move (tmp 9)
                  refine wpAnyT_take (i := 6) (v := undef) rfl (by kernel_rfl) (fun _ _ _ h => h) (Or.inr ⟨by kernel_rfl, rfl⟩) (by assumption) ?_
                  simp only [Act.put, List.setIfInBounds_toArray, List.set_cons_zero, List.set_cons_succ]
                  -- op 7: Op.pick (tmp 107) (const (Value.bool true)) 
                  refine wpAnyT_take (i := 7) (v := ?_) rfl (by kernel_rfl) (fun _ _ _ h => h) (Or.inl ⟨by kernel_rfl, fun W hSW => ?_⟩) (by assumption) ?_; rotate_left
                  · ((try dsimp only at hSW); go_simp; try (with_reducible rfl))
                  simp only [Act.put, List.setIfInBounds_toArray, List.set_cons_zero, List.set_cons_succ]
                  -- op 8: Op.move (tmp 109)
                  refine wpAnyT_take (i := 8) (v := ?_) rfl (by kernel_rfl) (fun _ _ _ h => h) (Or.inl ⟨by kernel_rfl, fun W hSW => ?_⟩) (by assumption) ?_; rotate_left
                  · ((try dsimp only at hSW); go_simp; try (with_reducible rfl))
                  simp only [Act.put, List.setIfInBounds_toArray, List.set_cons_zero, List.set_cons_succ]
                  -- op 9: Op.load 26 (tmp 7)
                  refine wpAnyT_take (i := 9) (v := undef) rfl (by kernel_rfl) (fun _ _ _ h => h) (Or.inr ⟨by kernel_rfl, rfl⟩) (by assumption) ?_
                  simp only [Act.put, List.setIfInBounds_toArray, List.set_cons_zero, List.set_cons_succ]
                  -- op 10: Op.call { callee := Callee.value (func 15), args := 
                  refine wpAnyT_take (i := 10) (v := undef) rfl (by kernel_rfl) (fun _ _ _ h => h) (Or.inr ⟨by kernel_rfl, rfl⟩) (by assumption) ?_
                  simp only [Act.put, List.setIfInBounds_toArray, List.set_cons_zero, List.set_cons_succ]
                  -- op 11: Op.fieldAddr 26 (tmp 7) 3
                  refine wpAnyT_take (i := 11) (v := undef) rfl (by kernel_rfl) (fun _ _ _ h => h) (Or.inr ⟨by kernel_rfl, rfl⟩) (by assumption) ?_
                  simp only [Act.put, List.setIfInBounds_toArray, List.set_cons_zero, List.set_cons_succ]
                  -- op 12: Op.load 3 (tmp 113)
                  refine wpAnyT_take (i := 12) (v := undef) rfl (by kernel_rfl) (fun _ _ _ h => h) (Or.inr ⟨by kernel_rfl, rfl⟩) (by assumption) ?_
                  simp only [Act.put, List.setIfInBounds_toArray, List.set_cons_zero, List.set_cons_succ]
                  -- op 13: Op.binOp BinOp.geq 3 (tmp 112) (tmp 114) 3
                  refine wpAnyT_take (i := 13) (v := undef) rfl (by kernel_rfl) (fun _ _ _ h => h) (Or.inr ⟨by kernel_rfl, rfl⟩) (by assumption) ?_
                  simp only [Act.put, List.setIfInBounds_toArray, List.set_cons_zero, List.set_cons_succ]
                  -- op 14: Op.move (tmp 115)
                  refine wpAnyT_take (i := 14) (v := undef) rfl (by kernel_rfl) (fun _ _ _ h => h) (Or.inr ⟨by kernel_rfl, rfl⟩) (by assumption) ?_
                  simp only [Act.put, List.setIfInBounds_toArray, List.set_cons_zero, List.set_cons_succ]
                  -- op 15: Op.load 26 (tmp 7)
                  refine wpAnyT_take (i := 15) (v := undef) rfl (by kernel_rfl) (fun _ _ _ h => h) (Or.inr ⟨by kernel_rfl, rfl⟩) (by assumption) ?_
                  simp only [Act.put, List.setIfInBounds_toArray, List.set_cons_zero, List.set_cons_succ]
                  -- op 16: Op.call { callee := Callee.value (func 15), args := 
                  refine wpAnyT_take (i := 16) (v := undef) rfl (by kernel_rfl) (fun _ _ _ h => h) (Or.inr ⟨by kernel_rfl, rfl⟩) (by assumption) ?_
                  simp only [Act.put, List.setIfInBounds_toArray, List.set_cons_zero, List.set_cons_succ]
                  -- op 17: Op.fieldAddr 26 (tmp 7) 4
                  refine wpAnyT_take (i := 17) (v := undef) rfl (by kernel_rfl) (fun _ _ _ h => h) (Or.inr ⟨by kernel_rfl, rfl⟩) (by assumption) ?_
                  simp only [Act.put, List.setIfInBounds_toArray, List.set_cons_zero, List.set_cons_succ]
                  -- op 18: Op.load 3 (tmp 119)
                  refine wpAnyT_take (i := 18) (v := undef) rfl (by kernel_rfl) (fun _ _ _ h => h) (Or.inr ⟨by kernel_rfl, rfl⟩) (by assumption) ?_
                  simp only [Act.put, List.setIfInBounds_toArray, List.set_cons_zero, List.set_cons_succ]
                  -- op 19: Op.binOp BinOp.leq 3 (tmp 118) (tmp 120) 3
                  refine wpAnyT_take (i := 19) (v := undef) rfl (by kernel_rfl) (fun _ _ _ h => h) (Or.inr ⟨by kernel_rfl, rfl⟩) (by assumption) ?_
                  simp only [Act.put, List.setIfInBounds_toArray, List.set_cons_zero, List.set_cons_succ]
                  -- op 20: Op.pick (tmp 116) (tmp 121) (const (
                  refine wpAnyT_take (i := 20) (v := undef) rfl (by kernel_rfl) (fun _ _ _ h => h) (Or.inr ⟨by kernel_rfl, rfl⟩) (by assumption) ?_
                  simp only [Act.put, List.setIfInBounds_toArray, List.set_cons_zero, List.set_cons_succ]
                  -- op 21: Op.pick (tmp 110) (const (Value.bool true)) 
                  refine wpAnyT_take (i := 21) (v := ?_) rfl (by kernel_rfl) (fun _ _ _ h => h) (Or.inl ⟨by kernel_rfl, fun W hSW => ?_⟩) (by assumption) ?_; rotate_left
                  · ((try dsimp only at hSW); go_simp; try (with_reducible rfl))
                  simp only [Act.put, List.setIfInBounds_toArray, List.set_cons_zero, List.set_cons_succ]
                  -- op 22: Op.pick (tmp 103) (tmp 123) (const (
                  refine wpAnyT_take (i := 22) (v := ?_) rfl (by kernel_rfl) (fun _ _ _ h => h) (Or.inl ⟨by kernel_rfl, fun W hSW => ?_⟩) (by assumption) ?_; rotate_left
                  · ((try dsimp only at hSW); go_simp; try (with_reducible rfl))
                  simp only [Act.put, List.setIfInBounds_toArray, List.set_cons_zero, List.set_cons_succ]
                  -- op 23: Op.assign (tmp 124)
                  refine wpAnyT_take (i := 23) (v := ?_) rfl (by kernel_rfl) (fun _ _ _ h => h) (Or.inl ⟨by kernel_rfl, fun W hSW => ?_⟩) (by assumption) ?_; rotate_left
                  · ((try dsimp only at hSW); go_simp; try (with_reducible rfl))
                  simp only [Act.put, List.setIfInBounds_toArray, List.set_cons_zero, List.set_cons_succ]
                  refine wpAnyT_done (by kernel_rfl) ?_ _
                  have hfin := hHeld.2.1
                  go_wp2
                  go_ret
                  exact ⟨rfl, hfin⟩
                · have hl0 : ((l.length : Int) == 0) = false := by simpa using hne
                  have hl1 : (l.length == 0) = false := by simpa using hne
                  have hl3 : l.isEmpty = false := by simpa using hne
                  have hl2 : ¬ l = [] := by simpa using hne
                  have hB := hB2.out
                  obtain ⟨c0, c1, c2, c3, c4⟩ := agg_cells hB
                  go_wp2_with fail
                  refine wp_region_T (S := (fun w' => w'.heap[w1.heap.size]? = some (.cells #[.int .i64 A.c, .int .i64 A.hi, .int .u64 A.lo, .int .i64 A.mn, .int .i64 A.mx] 26) ∧ Below w.heap.size w w' ∧ (w'.cell? ⟨w1.heap.size, 0, none⟩ = some (.int .i64 A.c) ∧ w'.cell? ⟨w1.heap.size, 1, none⟩ = some (.int .i64 A.hi) ∧ w'.cell? ⟨w1.heap.size, 2, none⟩ = some (.int .u64 A.lo) ∧ w'.cell? ⟨w1.heap.size, 3, none⟩ = some (.int .i64 A.mn) ∧ w'.cell? ⟨w1.heap.size, 4, none⟩ = some (.int .i64 A.mx)))) 24 (by kernel_rfl) ?_ (fun hHeld => ?_)
                  · (first | exact ⟨hB, hbel.drew, agg_cells hB⟩ | exact keep1 hHeld.1 hHeld.2.1 hb3)
                  -- op 0: Op.call { callee := Callee.value (func 10), args := 
                  refine wpAnyT_one (i := 0) rfl (by kernel_rfl) (fun K hK => ?_)
                  go_simp
                  (first | (go_at_call 10; refine (alive_any _).mono ?_; rintro e w3 ⟨rfl, hb3⟩) | (go_at_call 15; refine (mean_any A _ hok.out).mono ?_; rintro e w3 ⟨rfl, hb3⟩)); (try go_wp2_with fail)
                  refine hK.out _ _ ?_ (fun hHeld2 => ?_)
                  · (first | exact ⟨hB, hbel.drew, agg_cells hB⟩ | exact keep1 hHeld.1 hHeld.2.1 hb3)
                  clear hK K hHeld
                  have hHeld := hHeld2
                  clear hHeld2
                  try simp only [Act.put, List.setIfInBounds_toArray, List.set_cons_zero, List.set_cons_succ]
                  -- op 1: Op.move (tmp 102)
                  refine wpAnyT_take (i := 1) (v := ?_) rfl (by kernel_rfl) (fun _ _ _ h => h) (Or.inl ⟨by kernel_rfl, fun W hSW => ?_⟩) (by assumption) ?_; rotate_left
                  · ((try dsimp only at hSW); go_simp; try (with_reducible rfl))
                  simp only [Act.put, List.setIfInBounds_toArray, List.set_cons_zero, List.set_cons_succ]
                  -- op 2: Op.move (tmp 0)
                  refine wpAnyT_take (i := 2) (v := ?_) rfl (by kernel_rfl) (fun _ _ _ h => h) (Or.inl ⟨by kernel_rfl, fun W hSW => ?_⟩) (by assumption) ?_; rotate_left
                  · ((try dsimp only at hSW); go_simp; try (with_reducible rfl))
                  simp only [Act.put, List.setIfInBounds_toArray, List.set_cons_zero, List.set_cons_succ]
                  -- op 3: Op.call { callee := Callee.builtin Builtin.len, args := #[Op
                  refine wpAnyT_take (i := 3) (v := ?_) rfl (by kernel_rfl) (fun _ _ _ h => h) (Or.inl ⟨by kernel_rfl, fun W hSW => ?_⟩) (by assumption) ?_; rotate_left
                  · ((try dsimp only at hSW); go_simp; try (with_reducible rfl))
                  simp only [Act.put, List.setIfInBounds_toArray, List.set_cons_zero, List.set_cons_succ]
                  -- op 4: Op.binOp BinOp.eql 3 (tmp 105) (const (Value
                  refine wpAnyT_take (i := 4) (v := ?_) rfl (by kernel_rfl) (fun _ _ _ h => h) (Or.inl ⟨by kernel_rfl, fun W hSW => ?_⟩) (by assumption) ?_; rotate_left
                  · ((try dsimp only at hSW); go_simp; try (with_reducible rfl))
                  simp only [Act.put, List.setIfInBounds_toArray, List.set_cons_zero, List.set_cons_succ]
                  -- op 5: Op.move (tmp 106)
                  refine wpAnyT_take (i := 5) (v := ?_) rfl (by kernel_rfl) (fun _ _ _ h => h) (Or.inl ⟨by kernel_rfl, fun W hSW => ?_⟩) (by assumption) ?_; rotate_left
                  · ((try dsimp only at hSW); go_simp; try (with_reducible rfl))
                  simp only [Act.put, List.setIfInBounds_toArray, List.set_cons_zero, List.set_cons_succ]
                  -- op 6: Op.move (tmp 9)
                  refine wpAnyT_take (i := 6) (v := ?_) rfl (by kernel_rfl) (fun _ _ _ h => h) (Or.inl ⟨by kernel_rfl, fun W hSW => ?_⟩) (by assumption) ?_; rotate_left
                  · ((try dsimp only at hSW); go_simp; try (with_reducible rfl))
                  simp only [Act.put, List.setIfInBounds_toArray, List.set_cons_zero, List.set_cons_succ]
                  -- op 7: Op.pick (tmp 107) (const (Value.bool true)) 
                  refine wpAnyT_take (i := 7) (v := ?_) rfl (by kernel_rfl) (fun _ _ _ h => h) (Or.inl ⟨by kernel_rfl, fun W hSW => ?_⟩) (by assumption) ?_; rotate_left
                  · ((try dsimp only at hSW); go_simp; try (with_reducible rfl))
                  simp only [Act.put, List.setIfInBounds_toArray, List.set_cons_zero, List.set_cons_succ]
                  -- op 8: Op.move (tmp 109)
                  refine wpAnyT_take (i := 8) (v := ?_) rfl (by kernel_rfl) (fun _ _ _ h => h) (Or.inl ⟨by kernel_rfl, fun W hSW => ?_⟩) (by assumption) ?_; rotate_left
                  · ((try dsimp only at hSW); go_simp; try (with_reducible rfl))
                  simp only [Act.put, List.setIfInBounds_toArray, List.set_cons_zero, List.set_cons_succ]
                  -- op 9: Op.load 26 (tmp 7)
                  refine wpAnyT_take (i := 9) (v := undef) rfl (by kernel_rfl) (fun _ _ _ h => h) (Or.inr ⟨by kernel_rfl, rfl⟩) (by assumption) ?_
                  simp only [Act.put, List.setIfInBounds_toArray, List.set_cons_zero, List.set_cons_succ]
                  -- op 10: Op.call { callee := Callee.value (func 15), args := 
                  refine wpAnyT_take (i := 10) (v := undef) rfl (by kernel_rfl) (fun _ _ _ h => h) (Or.inr ⟨by kernel_rfl, rfl⟩) (by assumption) ?_
                  simp only [Act.put, List.setIfInBounds_toArray, List.set_cons_zero, List.set_cons_succ]
                  -- op 11: Op.fieldAddr 26 (tmp 7) 3
                  refine wpAnyT_take (i := 11) (v := undef) rfl (by kernel_rfl) (fun _ _ _ h => h) (Or.inr ⟨by kernel_rfl, rfl⟩) (by assumption) ?_
                  simp only [Act.put, List.setIfInBounds_toArray, List.set_cons_zero, List.set_cons_succ]
                  -- op 12: Op.load 3 (tmp 113)
                  refine wpAnyT_take (i := 12) (v := undef) rfl (by kernel_rfl) (fun _ _ _ h => h) (Or.inr ⟨by kernel_rfl, rfl⟩) (by assumption) ?_
                  simp only [Act.put, List.setIfInBounds_toArray, List.set_cons_zero, List.set_cons_succ]
                  -- op 13: Op.binOp BinOp.geq 3 (tmp 112) (tmp 114) 3
                  refine wpAnyT_take (i := 13) (v := undef) rfl (by kernel_rfl) (fun _ _ _ h => h) (Or.inr ⟨by kernel_rfl, rfl⟩) (by assumption) ?_
                  simp only [Act.put, List.setIfInBounds_toArray, List.set_cons_zero, List.set_cons_succ]
                  -- op 14: Op.move (tmp 115)
                  refine wpAnyT_take (i := 14) (v := undef) rfl (by kernel_rfl) (fun _ _ _ h => h) (Or.inr ⟨by kernel_rfl, rfl⟩) (by assumption) ?_
                  simp only [Act.put, List.setIfInBounds_toArray, List.set_cons_zero, List.set_cons_succ]
                  -- op 15: Op.load 26 (tmp 7)
                  refine wpAnyT_take (i := 15) (v := undef) rfl (by kernel_rfl) (fun _ _ _ h => h) (Or.inr ⟨by kernel_rfl, rfl⟩) (by assumption) ?_
                  simp only [Act.put, List.setIfInBounds_toArray, List.set_cons_zero, List.set_cons_succ]
                  -- op 16: Op.call { callee := Callee.value (func 15), args := 
                  refine wpAnyT_take (i := 16) (v := undef) rfl (by kernel_rfl) (fun _ _ _ h => h) (Or.inr ⟨by kernel_rfl, rfl⟩) (by assumption) ?_
                  simp only [Act.put, List.setIfInBounds_toArray, List.set_cons_zero, List.set_cons_succ]
                  -- op 17: Op.fieldAddr 26 (tmp 7) 4
                  refine wpAnyT_take (i := 17) (v := undef) rfl (by kernel_rfl) (fun _ _ _ h => h) (Or.inr ⟨by kernel_rfl, rfl⟩) (by assumption) ?_
                  simp only [Act.put, List.setIfInBounds_toArray, List.set_cons_zero, List.set_cons_succ]
                  -- op 18: Op.load 3 (tmp 119)
                  refine wpAnyT_take (i := 18) (v := undef) rfl (by kernel_rfl) (fun _ _ _ h => h) (Or.inr ⟨by kernel_rfl, rfl⟩) (by assumption) ?_
                  simp only [Act.put, List.setIfInBounds_toArray, List.set_cons_zero, List.set_cons_succ]
                  -- op 19: Op.binOp BinOp.leq 3 (tmp 118) (tmp 120) 3
                  refine wpAnyT_take (i := 19) (v := undef) rfl (by kernel_rfl) (fun _ _ _ h => h) (Or.inr ⟨by kernel_rfl, rfl⟩) (by assumption) ?_
                  simp only [Act.put, List.setIfInBounds_toArray, List.set_cons_zero, List.set_cons_succ]
                  -- op 20: Op.pick (tmp 116) (tmp 121) (const (
                  refine wpAnyT_take (i := 20) (v := undef) rfl (by kernel_rfl) (fun _ _ _ h => h) (Or.inr ⟨by kernel_rfl, rfl⟩) (by assumption) ?_
                  simp only [Act.put, List.setIfInBounds_toArray, List.set_cons_zero, List.set_cons_succ]
                  -- op 21: Op.pick (tmp 110) (const (Value.bool true)) 
                  refine wpAnyT_take (i := 21) (v := ?_) rfl (by kernel_rfl) (fun _ _ _ h => h) (Or.inl ⟨by kernel_rfl, fun W hSW => ?_⟩) (by assumption) ?_; rotate_left
                  · ((try dsimp only at hSW); go_simp; try (with_reducible rfl))
                  simp only [Act.put, List.setIfInBounds_toArray, List.set_cons_zero, List.set_cons_succ]
                  -- op 22: Op.pick (tmp 103) (tmp 123) (const (
                  refine wpAnyT_take (i := 22) (v := ?_) rfl (by kernel_rfl) (fun _ _ _ h => h) (Or.inl ⟨by kernel_rfl, fun W hSW => ?_⟩) (by assumption) ?_; rotate_left
                  · ((try dsimp only at hSW); go_simp; try (with_reducible rfl))
                  simp only [Act.put, List.setIfInBounds_toArray, List.set_cons_zero, List.set_cons_succ]
                  -- op 23: Op.assign (tmp 124)
                  refine wpAnyT_take (i := 23) (v := ?_) rfl (by kernel_rfl) (fun _ _ _ h => h) (Or.inl ⟨by kernel_rfl, fun W hSW => ?_⟩) (by assumption) ?_; rotate_left
                  · ((try dsimp only at hSW); go_simp; try (with_reducible rfl))
                  simp only [Act.put, List.setIfInBounds_toArray, List.set_cons_zero, List.set_cons_succ]
                  refine wpAnyT_done (by kernel_rfl) ?_ _
                  have hfin := hHeld.2.1
                  go_wp2
                  go_ret
                  exact ⟨rfl, hfin⟩

end Go.Proofs.Ytagpamgdgcghfaa
