/-
  The walk of the law SuperNewest.
-/
import Derived.Test.YtabkeggcaacldaaSuper7
namespace Go.Proofs.Ytabkeggcaacldaa
open Go.RowKit
set_option linter.unusedVariables false
set_option linter.unusedSimpArgs false

/-- A disk is as it was, where none of its own blocks was touched. -/
theorem DiskAt.foreign {w w' : World} {B p c : Nat} {d : DV} (h : DiskAt w B p c d) (hk : d.keep = []) (hs : w.heap.size ≤ w'.heap.size) (hb : ∀ k, Own w p k → w'.heap[k]? = w.heap[k]?) : DiskAt w' B p c d := by
  obtain ⟨kv, wv, mb, lb, h⟩ := h
  have ho := h.own_iff
  obtain ⟨n, hn, hl⟩ := h.lasts
  exact ⟨kv, wv, mb, lb, (hb p ((ho p).2 (.inl rfl))).trans h.blk, h.keep.step hs (fun b o s m c' e hne => absurd hk hne), h.now.step (hb mb ((ho mb).2 (.inr (.inl rfl)))), ⟨n, hn, hl.step (hb lb ((ho lb).2 (.inr (.inr (.inl rfl)))))⟩,
    own_frame h.waits (fun k hg => hb k ((ho k).2 (.inr (.inr (.inr hg))))), h.ne, h.ge, h.ok⟩
theorem put_some (s : SV) (h : s.ok) : ∃ (t : ByteArray) (e : Int), (∀ w, Calls Try.prog 12 #[s.val] w (RetB w (.tuple #[.string t, .int .i64 e]))) := by
  by_cases hm : s.may
  · exact ⟨_, _, fun w => put_yes s w h hm⟩
  · exact ⟨_, _, fun w => put_no s w h hm⟩
def SV.at (s : SV) (n : Int) : SV := ⟨s.gen, n, s.bytes⟩
theorem at_ok {s : SV} (h : s.ok) (n : Int) (hn : I64 n) : (s.at n).ok := ⟨h.1, hn, h.2.2⟩
def NX (A B : SV) : DV := ((DV.fresh 100).spent.put 0 (putS A)).spent.put 1 (putS B)
set_option maxRecDepth 100000 in
theorem one_sr (A : SV) (hok : A.ok) (hm : A.may) (hb : A.blocks = 100) : ((DV.fresh 100).spent.put 0 (putS A)).srV = .tuple #[A.val, .int .i64 0] := by
  unfold DV.srV
  have h0 : ((DV.fresh 100).spent.put 0 (putS A)).on = true := rfl
  have r0 : (((DV.fresh 100).spent.put 0 (putS A)).read 0).1 = putS A := by rw [read_now h0 ⟨by decide, by show _ < (100 : Int); decide⟩]; rfl
  have r1 : (((DV.fresh 100).spent.put 0 (putS A)).read 1).1 = zeroB := by rw [read_now h0 ⟨by decide, by show _ < (100 : Int); decide⟩]; rfl
  have hg := hok.1.1
  have hbst : ((DV.fresh 100).spent.put 0 (putS A)).best 2 = A := by
    rw [best_two, r0, r1, getR_zero, getR_put A hok hm, if_neg (by show ¬ A.gen < 0; omega)]
  rw [sr_on h0, hbst, if_neg (by intro h; rcases h with h | h; exact hm.2.1 h; exact h hb)]
set_option maxRecDepth 100000 in
theorem two_sr (A B : SV) (hokA : A.ok) (hmA : A.may) (hbA : A.blocks = 100) (hokB : B.ok) (hmB : B.may) (hbB : B.blocks = 100) : (NX A B).srV = .tuple #[(if A.gen < B.gen then B else A).val, .int .i64 0] := by
  unfold DV.srV
  have h0 : (NX A B).on = true := rfl
  have r0 : ((NX A B).read 0).1 = putS A := by rw [read_now h0 ⟨by decide, by show _ < (100 : Int); decide⟩]; rfl
  have r1 : ((NX A B).read 1).1 = putS B := by rw [read_now h0 ⟨by decide, by show _ < (100 : Int); decide⟩]; rfl
  have hbst : (NX A B).best 2 = if A.gen < B.gen then B else A := by
    rw [best_two, r0, r1, getR_put A hokA hmA, getR_put B hokB hmB]
  rw [sr_on h0, hbst, if_neg]
  split
  · intro h; rcases h with h | h; exact hmB.2.1 h; exact h hbB
  · intro h; rcases h with h | h; exact hmA.2.1 h; exact h hbA

set_option maxRecDepth 100000 in
set_option maxHeartbeats 4000000 in
theorem walkSuperNewest (S T : SV) (first : Bool) (w : World) (hS : S.ok) (hT : T.ok) : Calls Try.prog 6 #[S.val, T.val, .bool first] w (BoolPost w true) := by
  have HAok := Lib.hid (at_ok hS 100 (by unfold I64; omega))
  have HBok := Lib.hid (at_ok hT 100 (by unfold I64; omega))
  clear hS hT
  simp only [SV.val]
  go_enter Try.func6, Try.ntmps6
  go_wp2_with fail
  refine (new_any 100 _ (by omega)).mono ?_
  rintro e w1 ⟨q, rfl, hD, hb1⟩
  have hs1 := heap_step ((Below.heap_alloc _ (.cells #[.int .u64 T.gen, .int .i64 T.blocks, .int .i64 T.bytes] 24) _ (by simp)).trans (heap_alloc_new w (.cells #[.int .u64 S.gen, .int .i64 S.blocks, .int .i64 S.bytes] 24))) hb1
  have ht1 : w1.heap[w.heap.size + 1]? = some (.cells #[.int .u64 T.gen, .int .i64 T.blocks, .int .i64 T.bytes] 24) := heap_step (heap_new_at (by simp)) hb1
  have hbl1 : Below w.heap.size w w1 := chain (chain (bel_new w _) (bel_new _ _)) hb1
  have hs2 : ((w1.setCell ⟨w.heap.size, 1, none⟩ (.int .i64 100)).setCell ⟨w.heap.size + 1, 1, none⟩ (.int .i64 100)).heap[w.heap.size]? = some (.cells #[.int .u64 (S.at 100).gen, .int .i64 (S.at 100).blocks, .int .i64 (S.at 100).bytes] 24) := by
    rw [set_heap_other _ (by simp), set_heap hs1]; rfl
  have ht2 : ((w1.setCell ⟨w.heap.size, 1, none⟩ (.int .i64 100)).setCell ⟨w.heap.size + 1, 1, none⟩ (.int .i64 100)).heap[w.heap.size + 1]? = some (.cells #[.int .u64 (T.at 100).gen, .int .i64 (T.at 100).blocks, .int .i64 (T.at 100).bytes] 24) := by
    rw [set_heap (by rw [set_heap_other _ (by simp)]; exact ht1)]; rfl
  have HD2 := Lib.hid (show DiskAt ((w1.setCell ⟨w.heap.size, 1, none⟩ (.int .i64 100)).setCell ⟨w.heap.size + 1, 1, none⟩ (.int .i64 100)) (w.heap.size + 2) q 0 (DV.fresh 100) from by
    have hge : ∀ k, Own w1 q k → w.heap.size + 2 ≤ k := by
      obtain ⟨kv, wv, mb, lb, h⟩ := hD
      intro k hk; have := h.ge_own k hk; simpa using this
    have h2 := hD.foreign (w' := (w1.setCell ⟨w.heap.size, 1, none⟩ (.int .i64 100)).setCell ⟨w.heap.size + 1, 1, none⟩ (.int .i64 100)) rfl (by simp) (fun k hk => by
      have := hge k hk
      rw [set_heap_other _ (by simp; omega), set_heap_other _ (by simp; omega)])
    simpa using h2)
  have HS2 := Lib.hid hs2
  have HT2 := Lib.hid ht2
  have HB2 := Lib.hid (show Below w.heap.size w ((w1.setCell ⟨w.heap.size, 1, none⟩ (.int .i64 100)).setCell ⟨w.heap.size + 1, 1, none⟩ (.int .i64 100)) from bel_set (bel_set hbl1 (Nat.le_refl _)) (Nat.le_succ _))
  obtain ⟨c0, c1, c2⟩ := cells3 hs1
  obtain ⟨e0, e1, e2⟩ := cells3 ht1
  have f1 := frozen_row (o := 1) hs1
  have g1 := frozen_row (o := 1) ht1
  clear hD hb1 hs1 ht1 hs2 ht2 hbl1
  go_wp2_with fail
  obtain ⟨X, hX⟩ : ∃ X, X = (w1.setCell ⟨w.heap.size, 1, none⟩ (.int .i64 100)).setCell ⟨w.heap.size + 1, 1, none⟩ (.int .i64 100) := ⟨_, rfl⟩
  rw [← hX] at HD2 HS2 HT2 HB2 ⊢
  clear c0 c1 c2 e0 e1 e2 f1 g1 hX
  by_cases hmA : (S.at 100).may
  · have HMA := Lib.hid hmA
    clear hmA
    refine (put_yes (S.at 100) _ HAok.out HMA.out).mono ?_
    rintro e w3 ⟨rfl, hb3⟩
    have HD3 := Lib.hid (HD2.out.step hb3)
    have HS3 := Lib.hid (heap_step HS2.out hb3)
    have HT3 := Lib.hid (heap_step HT2.out hb3)
    have HB3 := Lib.hid (HB2.out.trans (hb3.mono (Nat.le_of_lt (heap_lt HS2.out))))
    obtain ⟨e0, e1, e2⟩ := cells3 HT3.out
    clear hb3
    go_wp2_with fail
    by_cases hmB : (T.at 100).may
    · have HMB := Lib.hid hmB
      clear hmB
      refine (put_yes (T.at 100) _ HBok.out HMB.out).mono ?_
      rintro e w4 ⟨rfl, hb4⟩
      have HD4 := Lib.hid (HD3.out.step hb4)
      have HS4 := Lib.hid (heap_step HS3.out hb4)
      have HT4 := Lib.hid (heap_step HT3.out hb4)
      have HB4 := Lib.hid (HB3.out.trans (hb4.mono (Nat.le_of_lt (heap_lt HS3.out))))
      clear hb4 e0 e1 e2
      have E1 := Lib.hid (show (DV.fresh 100).write 0 (putS (S.at 100)) = ((DV.fresh 100).spent.put 0 (putS (S.at 100)), 0) from write_ok rfl (putS_size _) ⟨by decide, by show (0 : Int) < 100; decide⟩ (by intro h; cases h))
      have E2 := Lib.hid (show ((DV.fresh 100).spent.put 0 (putS (S.at 100))).write 1 (putS (T.at 100)) = (NX (S.at 100) (T.at 100), 0) from write_ok rfl (putS_size _) ⟨by decide, by show (1 : Int) < 100; decide⟩ (by intro h; cases h))
      have R1 := Lib.hid (one_sr (S.at 100) HAok.out HMA.out rfl)
      have R2 := Lib.hid (two_sr (S.at 100) (T.at 100) HAok.out HMA.out rfl HBok.out HMB.out rfl)
      have ZX := Lib.hid (putS_size (S.at 100))
      have ZY := Lib.hid (putS_size (T.at 100))
      have SM1 := Lib.hid (show ((DV.fresh 100).spent.put 0 (putS (S.at 100))).small from put_small (d := (DV.fresh 100).spent) (fresh_small 100) (putS_size _))
      have SM2 := Lib.hid (show (NX (S.at 100) (T.at 100)).small from put_small (d := ((DV.fresh 100).spent.put 0 (putS (S.at 100))).spent) SM1.out (putS_size _))
      obtain ⟨x, hx⟩ : ∃ x, x = putS (S.at 100) := ⟨_, rfl⟩
      obtain ⟨y, hy⟩ : ∃ y, y = putS (T.at 100) := ⟨_, rfl⟩
      obtain ⟨D2, hD2⟩ : ∃ D, D = NX (S.at 100) (T.at 100) := ⟨_, rfl⟩
      have B2 := Lib.hid (show D2.blocks = 100 by rw [hD2]; rfl)
      rw [← hD2] at E2 R2 SM2
      rw [← hx] at E1 E2 R1 ZX SM1 ⊢
      rw [← hy] at E2 ZY ⊢
      obtain ⟨D1, hD1⟩ : ∃ D, D = (DV.fresh 100).spent.put 0 x := ⟨_, rfl⟩
      have B1 := Lib.hid (show D1.blocks = 100 by rw [hD1]; rfl)
      have W1 := Lib.hid (show D1.writes = 1 by rw [hD1]; rfl)
      rw [← hD1] at E1 E2 R1 SM1
      clear hx hy hD2 hD1
      go_wp2_with fail
      refine (write_any 0 x HD4.out (by decide) (by unfold I64; omega) (by decide) (by rw [ZX.out]; decide)).mono ?_
      rintro e w5 ⟨rfl, hd, hs⟩
      rw [E1.out] at hd ⊢
      have HD5 := Lib.hid hd
      have hlow := HD4.out.below hs
      have HS5 := Lib.hid (below_at hlow (by omega) HS4.out)
      have HT5 := Lib.hid (below_at hlow (by omega) HT4.out)
      have HB5 := Lib.hid (HB4.out.trans (hlow.mono (by omega)))
      clear hd hs hlow
      cases first with
      | true =>
        go_wp2_with fail
        refine (sread_any HD5.out (by rw [B1.out]; decide) (fun k => read_small SM1.out _)).mono ?_
        rintro e w6 ⟨rfl, hb6⟩
        rw [R1.out]
        have HS6 := Lib.hid (heap_step HS5.out hb6)
        have HB6 := Lib.hid (HB5.out.trans (hb6.mono (Nat.le_of_lt (heap_lt HS5.out))))
        clear hb6
        simp only [SV.val]
        go_wp2_with fail
        refine (alive_any _).mono ?_
        rintro e w7 ⟨rfl, hb7⟩
        obtain ⟨c0, c1, c2⟩ := cells3 (heap_step (Below.heap_alloc _ _ _ (heap_lt HS6.out) |>.trans HS6.out) hb7)
        obtain ⟨d0, d1, d2⟩ := cells3 (heap_step (heap_alloc_new w6 (.cells #[.int .u64 (S.at 100).gen, .int .i64 (S.at 100).blocks, .int .i64 (S.at 100).bytes] 24)) hb7)
        have HB7 := Lib.hid (HB6.out.trans ((chain (bel_new w6 _) hb7).mono (Nat.le_of_lt (heap_lt HS6.out))))
        clear hb7
        go_wp2
        go_ret
        exact ⟨rfl, HB7.out⟩
      | false =>
        obtain ⟨c0, c1, c2⟩ := cells3 HS5.out
        obtain ⟨e0, e1, e2⟩ := cells3 HT5.out
        have l0 := heap_lt HS5.out
        have l1 := heap_lt HT5.out
        by_cases hgt : (S.at 100).gen < (T.at 100).gen
        · rw [if_pos hgt] at R2
          go_wp2_with fail
          have HBL := Lib.hid (show Below w5.heap.size w5 _ from bel_new w5 (.cells #[.int .u64 (T.at 100).gen, .int .i64 (T.at 100).blocks, .int .i64 (T.at 100).bytes] 24))
          have HWR := Lib.hid (heap_alloc_new w5 (.cells #[.int .u64 (T.at 100).gen, .int .i64 (T.at 100).blocks, .int .i64 (T.at 100).bytes] 24))
          have HLT := Lib.hid l0
          refine (write_any 1 y (HD5.out.step HBL.out) (by decide) (by unfold I64; omega) (by rw [W1.out]; decide) (by rw [ZY.out]; decide)).mono ?_
          rintro e w6 ⟨rfl, hd, hs⟩
          rw [E2.out] at hd ⊢
          have HD6 := Lib.hid hd
          have hw6 := (hs.block w5.heap.size (by simp) (own_old HD5.out HBL.out (Nat.le_refl _))).trans HWR.out
          have HW6 := Lib.hid hw6
          have hlow := (HD5.out.step HBL.out).below hs
          have HB6 := Lib.hid ((HB5.out.trans (HBL.out.mono (Nat.le_of_lt l0))).trans (hlow.mono (by omega)))
          clear hd hs hlow c0 c1 c2 e0 e1 e2 hw6
          go_wp2_with fail
          refine (sread_any HD6.out (by rw [B2.out]; decide) (fun k => read_small SM2.out _)).mono ?_
          rintro e w7 ⟨rfl, hb7⟩
          rw [R2.out]
          have HW7 := Lib.hid (heap_step HW6.out hb7)
          have HB7 := Lib.hid (HB6.out.trans (hb7.mono HB6.out.size))
          clear hb7
          simp only [SV.val]
          go_wp2_with fail
          refine (alive_any _).mono ?_
          rintro e w8 ⟨rfl, hb8⟩
          obtain ⟨c0, c1, c2⟩ := cells3 (heap_step ((Below.heap_alloc _ _ _ (heap_lt HW7.out)).trans HW7.out) hb8)
          obtain ⟨d0, d1, d2⟩ := cells3 (heap_step (heap_alloc_new w7 (.cells #[.int .u64 (T.at 100).gen, .int .i64 (T.at 100).blocks, .int .i64 (T.at 100).bytes] 24)) hb8)
          have HB8 := Lib.hid (HB7.out.trans ((chain (bel_new w7 _) hb8).mono HB7.out.size))
          clear hb8
          go_wp2
          go_ret
          exact ⟨rfl, HB8.out⟩
        · rw [if_neg hgt] at R2
          go_wp2_with fail
          have HBL := Lib.hid (show Below w5.heap.size w5 _ from bel_new w5 (.cells #[.int .u64 (S.at 100).gen, .int .i64 (S.at 100).blocks, .int .i64 (S.at 100).bytes] 24))
          have HWR := Lib.hid (heap_alloc_new w5 (.cells #[.int .u64 (S.at 100).gen, .int .i64 (S.at 100).blocks, .int .i64 (S.at 100).bytes] 24))
          have HLT := Lib.hid l0
          refine (write_any 1 y (HD5.out.step HBL.out) (by decide) (by unfold I64; omega) (by rw [W1.out]; decide) (by rw [ZY.out]; decide)).mono ?_
          rintro e w6 ⟨rfl, hd, hs⟩
          rw [E2.out] at hd ⊢
          have HD6 := Lib.hid hd
          have hw6 := (hs.block w5.heap.size (by simp) (own_old HD5.out HBL.out (Nat.le_refl _))).trans HWR.out
          have HW6 := Lib.hid hw6
          have hlow := (HD5.out.step HBL.out).below hs
          have HB6 := Lib.hid ((HB5.out.trans (HBL.out.mono (Nat.le_of_lt l0))).trans (hlow.mono (by omega)))
          clear hd hs hlow c0 c1 c2 e0 e1 e2 hw6
          go_wp2_with fail
          refine (sread_any HD6.out (by rw [B2.out]; decide) (fun k => read_small SM2.out _)).mono ?_
          rintro e w7 ⟨rfl, hb7⟩
          rw [R2.out]
          have HW7 := Lib.hid (heap_step HW6.out hb7)
          have HB7 := Lib.hid (HB6.out.trans (hb7.mono HB6.out.size))
          clear hb7
          simp only [SV.val]
          go_wp2_with fail
          refine (alive_any _).mono ?_
          rintro e w8 ⟨rfl, hb8⟩
          obtain ⟨c0, c1, c2⟩ := cells3 (heap_step ((Below.heap_alloc _ _ _ (heap_lt HW7.out)).trans HW7.out) hb8)
          obtain ⟨d0, d1, d2⟩ := cells3 (heap_step (heap_alloc_new w7 (.cells #[.int .u64 (S.at 100).gen, .int .i64 (S.at 100).blocks, .int .i64 (S.at 100).bytes] 24)) hb8)
          have HB8 := Lib.hid (HB7.out.trans ((chain (bel_new w7 _) hb8).mono HB7.out.size))
          clear hb8
          go_wp2
          go_ret
          exact ⟨rfl, HB8.out⟩
    · have HMB := Lib.hid hmB
      clear hmB
      refine (put_no (T.at 100) _ HBok.out HMB.out).mono ?_
      rintro e w4 ⟨rfl, hb4⟩
      have HB4 := Lib.hid (HB3.out.trans (hb4.mono (Nat.le_of_lt (heap_lt HS3.out))))
      clear hb4
      go_wp2_with fail
      refine (alive_any _).mono ?_
      rintro e w5 ⟨rfl, hb5⟩
      have HB5 := Lib.hid (HB4.out.trans (hb5.mono HB4.out.size))
      clear hb5
      go_wp2
      go_ret
      exact ⟨rfl, HB5.out⟩
  · have HMA := Lib.hid hmA
    clear hmA
    obtain ⟨t, te, hpt⟩ := put_some (T.at 100) HBok.out
    have HPT := Lib.hid hpt
    clear hpt
    refine (put_no (S.at 100) _ HAok.out HMA.out).mono ?_
    rintro e w3 ⟨rfl, hb3⟩
    have HT3 := Lib.hid (heap_step HT2.out hb3)
    have HB3 := Lib.hid (HB2.out.trans (hb3.mono (Nat.le_of_lt (heap_lt HS2.out))))
    obtain ⟨e0, e1, e2⟩ := cells3 HT3.out
    clear hb3
    go_wp2_with fail
    refine (HPT.out _).mono ?_
    rintro e w4 ⟨rfl, hb4⟩
    have HB4 := Lib.hid (HB3.out.trans (hb4.mono HB3.out.size))
    clear hb4
    go_wp2_with fail
    refine (alive_any _).mono ?_
    rintro e w5 ⟨rfl, hb5⟩
    have HB5 := Lib.hid (HB4.out.trans (hb5.mono HB4.out.size))
    clear hb5
    go_wp2
    go_ret
    exact ⟨rfl, HB5.out⟩
end Go.Proofs.Ytabkeggcaacldaa
