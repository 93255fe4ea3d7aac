/-
  The walk of the law SuperTells.
-/
import Derived.Test.YtabkeggcaacldaaSuper7
import Derived.Test.YtabkeggcaacldaaSuper3
namespace Go.Proofs.Ytabkeggcaacldaa
open Go.RowKit
set_option linter.unusedVariables false
set_option linter.unusedSimpArgs false

theorem plan_both (n : Int) (hn : I64 n) : ∃ x0 x1 x2 x3 x4 x5 x6 e : Int, (∀ w, Calls Try.prog 10 #[.int .i64 n] w (RetB w (.tuple #[.agg #[.int .i64 x0, .int .i64 x1, .int .i64 x2, .int .i64 x3, .int .i64 x4, .int .i64 x5, .int .i64 x6], .int .i64 e]))) ∧
    (∀ w, Calls Try.prog 11 #[.int .i64 n] w (RetB w (.tuple #[.agg #[.int .i64 x0, .int .i64 x1, .int .i64 x2, .int .i64 x3, .int .i64 x4, .int .i64 x5, .int .i64 x6], .int .i64 e]))) := by
  by_cases h : planOk n
  · exact ⟨_, _, _, _, _, _, _, _, fun w => plan_yes n w h, fun w => lplan_yes n w h⟩
  · exact ⟨_, _, _, _, _, _, _, _, fun w => plan_no n w hn h, fun w => lplan_no n w hn h⟩
theorem put_both (s : SV) (h : s.ok) : ∃ (t : ByteArray) (e : Int), (∀ w, Calls Try.prog 12 #[s.val] w (RetB w (.tuple #[.string t, .int .i64 e]))) ∧ (∀ w, Calls Try.prog 13 #[s.val] w (RetB w (.tuple #[.string t, .int .i64 e]))) := by
  by_cases hm : s.may
  · exact ⟨_, _, fun w => put_yes s w h hm, fun w => lput_yes s w h hm⟩
  · exact ⟨_, _, fun w => put_no s w h hm, fun w => lput_no s w h hm⟩

set_option maxRecDepth 100000 in
set_option maxHeartbeats 4000000 in
theorem walkSuperTells (n : Int) (wn : (Lit.int .i64 n).wf = true) (S : SV) (b : ByteArray) (w : World) (hS : S.ok) (hb : b.size ≤ 9223372036854775807) : Calls Try.prog 3 #[.int .i64 n, S.val, .string b] w (BoolPost w true) := by
  obtain ⟨x0, x1, x2, x3, x4, x5, x6, pe, hp1, hp2⟩ := plan_both n (wf64' wn)
  obtain ⟨t, te, ht1, ht2⟩ := put_both S hS
  have HP1 := Lib.hid hp1
  have HP2 := Lib.hid hp2
  have HT1 := Lib.hid ht1
  have HT2 := Lib.hid ht2
  have HBZ := Lib.hid hb
  clear hp1 hp2 ht1 ht2 wn hS hb
  by_cases hl : 300 < b.size
  · have hl' : (300 : Int) < b.size := by omega
    clear hl
    simp only [SV.val]
    go_enter Try.func3, Try.ntmps3
    go_wp2_with fail
    refine (alive_any _).mono ?_
    rintro e w1 ⟨rfl, hb1⟩
    go_wp2
    go_ret
    exact ⟨rfl, chain (bel_new w _) hb1⟩
  · have hl' : (b.size : Int) ≤ 300 := by omega
    simp only [SV.val]
    go_enter Try.func3, Try.ntmps3
    go_wp2_with fail
    refine (HP1.out _).mono ?_
    rintro e w1 ⟨rfl, hb1⟩
    have HA1 := Lib.hid (heap_step (heap_alloc_new w (.cells #[.int .u64 S.gen, .int .i64 S.blocks, .int .i64 S.bytes] 24)) hb1)
    have HB1 := Lib.hid (chain (bel_new w (.cells #[.int .u64 S.gen, .int .i64 S.blocks, .int .i64 S.bytes] 24)) hb1)
    clear hb1
    go_wp2_with fail
    refine (HP2.out _).mono ?_
    rintro e w2 ⟨rfl, hb2⟩
    have HA2 := Lib.hid (heap_step HA1.out (chain (bel_new w1 _) hb2))
    have HL2 := Lib.hid (heap_step (heap_alloc_new w1 (.cells #[.int .i64 x0, .int .i64 x1, .int .i64 x2, .int .i64 x3, .int .i64 x4, .int .i64 x5, .int .i64 x6] 27)) hb2)
    have HB2 := Lib.hid (chain HB1.out (chain (bel_new w1 _) hb2))
    obtain ⟨a0, a1, a2⟩ := cells3 HA2.out
    have hs2 := heap_lt HA2.out
    clear hb2
    go_wp2_with fail
    refine (HT1.out _).mono ?_
    rintro e w3 ⟨rfl, hb3⟩
    have HA3 := Lib.hid (heap_step HA2.out (chain (bel_new w2 _) hb3))
    have HL3 := Lib.hid (heap_step HL2.out (chain (bel_new w2 _) hb3))
    have HM3 := Lib.hid (heap_step (heap_alloc_new w2 (.cells #[.int .i64 x0, .int .i64 x1, .int .i64 x2, .int .i64 x3, .int .i64 x4, .int .i64 x5, .int .i64 x6] 27)) hb3)
    have HB3 := Lib.hid (chain HB2.out (chain (bel_new w2 _) hb3))
    clear a0 a1 a2 hs2 hb3
    obtain ⟨a0, a1, a2⟩ := cells3 HA3.out
    go_wp2_with fail
    refine (HT2.out _).mono ?_
    rintro e w4 ⟨rfl, hb4⟩
    have HB4 := Lib.hid (chain HB3.out hb4)
    clear a0 a1 a2
    obtain ⟨l0, l1, l2, l3, l4, l5, l6⟩ := row7 (heap_step HL3.out hb4)
    obtain ⟨m0, m1, m2, m3, m4, m5, m6⟩ := row7 (heap_step HM3.out hb4)
    have hq : (t.toList != t.toList) = false := by simp
    clear hb4
    go_wp2_with fail
    refine (get_any b _ HBZ.out).mono ?_
    rintro e w5 ⟨rfl, hb5⟩
    have HB5 := Lib.hid (chain HB4.out hb5)
    clear hb5 l0 l1 l2 l3 l4 l5 l6 m0 m1 m2 m3 m4 m5 m6 hq
    have HGV := Lib.hid (show getV b = .tuple #[(getR b).1.val, .int .i64 (getR b).2] from rfl)
    have HGC := Lib.hid (getR_cases b)
    rw [HGV.out]
    by_cases hs : b.size = 256
    · have hsz : ((b.size : Int) != 256) = false := by simp [hs]
      have HC := fun w => ropen_long b _ _ 252 w (by rw [hs]) (by decide) rfl rfl
      rw [show (252 + 4) = 256 from rfl] at HC
      cases ho : openE b with
      | false =>
        rw [show getR b = (SV.zero, 7) by unfold getR; rw [if_neg (by simp [hs]), if_pos ho]]
        unfold openE at ho
        rw [if_neg (of_decide_eq_false ho)] at HC
        have HC' := Lib.hid HC
        clear HC ho hs HGV HGC
        simp only [SV.val, SV.zero]
        go_wp2_with fail
        refine (HC'.out _).mono ?_
        rintro e w6 ⟨rfl, hb6⟩
        have HZ6 := Lib.hid (heap_step (heap_alloc_new w5 (.cells #[.int .u64 0, .int .i64 0, .int .i64 0] 24)) hb6)
        have HB6 := Lib.hid (chain HB5.out (chain (bel_new w5 _) hb6))
        clear hb6
        go_wp2_with fail
        refine (alive_any _).mono ?_
        rintro e w7 ⟨rfl, hb7⟩
        obtain ⟨z0, z1, z2⟩ := cells3 (heap_step HZ6.out hb7)
        have HB7 := Lib.hid (chain HB6.out hb7)
        clear hb7
        go_wp2
        go_ret
        exact ⟨rfl, HB7.out⟩
      | true =>
        obtain ⟨Z, E, hZE⟩ : ∃ Z E, getR b = (Z, E) := ⟨_, _, rfl⟩
        have HZok := Lib.hid (show Z.ok by have := getR_ok b; rw [hZE] at this; exact this)
        have hcase : (E = 0 ∧ Z.may ∧ putS Z = b) ∨ (E = 6 ∧ Z = SV.zero) := by
          have hu : getR b = if (getS b).may ∧ putS (getS b) = b then (getS b, 0) else (SV.zero, 6) := by unfold getR; rw [if_neg (by simp [hs]), if_neg (by rw [ho]; simp)]
          rcases HGC.out with h | h
          · rw [hZE] at h; exact .inl h
          · rw [hZE] at h hu
            split at hu
            · injection hu with _ hu; exact absurd hu h.1
            · injection hu with h1 h2; exact .inr ⟨h2, h1⟩
        have HCA := Lib.hid hcase
        rw [hZE]
        unfold openE at ho
        rw [if_pos (of_decide_eq_true ho)] at HC
        have HC' := Lib.hid HC
        clear HC ho hs HGV HGC hZE hcase
        dsimp only
        simp only [SV.val]
        go_wp2_with fail
        refine (HC'.out _).mono ?_
        rintro e w6 ⟨rfl, hb6⟩
        have hz6 := heap_step (heap_alloc_new w5 (.cells #[.int .u64 Z.gen, .int .i64 Z.blocks, .int .i64 Z.bytes] 24)) hb6
        have HZ6 := Lib.hid hz6
        have HB6 := Lib.hid (chain HB5.out (chain (bel_new w5 _) hb6))
        obtain ⟨z0, z1, z2⟩ := cells3 hz6
        clear hb6 hz6
        rcases HCA.out with ⟨rfl, hm, hp⟩ | ⟨rfl, rfl⟩
        · have HM := Lib.hid hm
          have HPP := Lib.hid hp
          clear hm hp HCA
          go_wp2_with fail
          refine (lput_yes Z _ HZok.out HM.out).mono ?_
          rintro e w7 ⟨rfl, hb7⟩
          rw [HPP.out]
          have HZ7 := Lib.hid (heap_step HZ6.out hb7)
          have HB7 := Lib.hid (chain HB6.out hb7)
          clear hb7 z0 z1 z2
          go_wp2_with fail
          refine (alive_any _).mono ?_
          rintro e w8 ⟨rfl, hb8⟩
          obtain ⟨z0, z1, z2⟩ := cells3 (heap_step HZ7.out hb8)
          have HB8 := Lib.hid (chain HB7.out hb8)
          have hq : (b.toList == b.toList) = true := by simp
          clear hb8
          go_wp2
          go_ret
          exact ⟨rfl, HB8.out⟩
        · clear HCA
          go_wp2_with fail
          refine (lput_no SV.zero _ HZok.out (by unfold SV.may SV.zero; dsimp only; omega)).mono ?_
          rintro e w7 ⟨rfl, hb7⟩
          have HZ7 := Lib.hid (heap_step HZ6.out hb7)
          have HB7 := Lib.hid (chain HB6.out hb7)
          clear hb7 z0 z1 z2
          go_wp2_with fail
          refine (alive_any _).mono ?_
          rintro e w8 ⟨rfl, hb8⟩
          obtain ⟨z0, z1, z2⟩ := cells3 (heap_step HZ7.out hb8)
          have HB8 := Lib.hid (chain HB7.out hb8)
          simp only [SV.zero] at z0 z1 z2
          clear hb8
          go_wp2
          go_ret
          exact ⟨rfl, HB8.out⟩
    · rw [show getR b = (SV.zero, 5) by unfold getR; rw [if_pos hs]]
      have hsz : ((b.size : Int) != 256) = true := by simp; omega
      clear hs HGV HGC
      simp only [SV.val, SV.zero]
      go_wp2_with fail
      refine (alive_any _).mono ?_
      rintro e w6 ⟨rfl, hb6⟩
      have HB6 := Lib.hid (chain HB5.out (chain (bel_new w5 _) hb6))
      clear hb6
      go_wp2
      go_ret
      exact ⟨rfl, HB6.out⟩
end Go.Proofs.Ytabkeggcaacldaa
