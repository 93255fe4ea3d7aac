/-
  The walk of the law SuperGarbage.
-/
import Derived.Test.YtabkeggcaacldaaSuperNewest
namespace Go.Proofs.Ytabkeggcaacldaa
open Go.RowKit
set_option linter.unusedVariables false
set_option linter.unusedSimpArgs false

theorem off_nil (w : World) : Calls Try.prog 41 #[.pointer none] w (RetB w (.bool true)) := by
  go_enter Try.func41, Try.ntmps41
  go_wp2
  go_ret
  exact ⟨rfl, Below.refl _ _⟩
theorem read_nil (k : Int) (w : World) : Calls Try.prog 25 #[.pointer none, .int .i64 k] w (RetB w (.tuple #[.string ByteArray.empty, .int .i64 14])) := by
  go_enter Try.func25, Try.ntmps25
  go_wp2_with fail
  refine (off_nil _).mono ?_
  rintro e w1 ⟨rfl, hb⟩
  go_wp2
  go_ret2
  exact ⟨rfl, hb⟩
set_option maxRecDepth 100000 in
set_option maxHeartbeats 2000000 in
theorem sread_nil (w : World) : Calls Try.prog 18 #[.pointer none] w (RetB w (.tuple #[SV.zero.val, .int .i64 14])) := by
  go_enter Try.func18, Try.ntmps18
  go_wp2
  go_loopw [10] (fun x wr => ∃ k : Nat, k ≤ 2 ∧ x = .int .i64 k ∧ k < 2 ∧ Hid (wr.heap[w.heap.size]? = some (.cells #[.int .u64 SV.zero.gen, .int .i64 SV.zero.blocks, .int .i64 SV.zero.bytes] 24)) ∧ Hid (Below w.heap.size w wr)) (fun x _ => 2 - (intOf x).toNat)
  case atStart => exact ⟨0, by omega, rfl, by omega, Lib.hid ((Below.heap_alloc _ _ _ (by simp)).trans (heap_alloc_new w _)), Lib.hid (chain (bel_new _ _) (bel_new _ _))⟩
  case round =>
    obtain ⟨k, hk, rfl, hlt, HR, HB⟩ := hrel
    go_wp2_with fail
    refine (read_nil k _).mono ?_
    rintro e w1 ⟨rfl, hb1⟩
    have hz := heap_step HR.out hb1
    have HB1 := Lib.hid (chain HB.out hb1)
    have HR1 := Lib.hid hz
    obtain ⟨c0, c1, c2⟩ := cells3 hz
    have f0 := frozen_row (o := 0) hz
    have f1 := frozen_row (o := 1) hz
    have f2 := frozen_row (o := 2) hz
    clear hb1 hz
    go_wp2
    refine bodyPost_ret (v := .tuple #[_, .int .i64 14]) (results_row_tmp Try.results18 _ _ w.heap.size 24 _ (0, 0) _ _ rfl rfl (set3 HR1.out) Try.underlying24 rfl (by kernel_rfl)) rfl ?_
    exact ⟨rfl, set3_bel HB1.out (Nat.le_refl _)⟩

def GX (a b : ByteArray) : DV := ((DV.fresh 100).spent.put 0 a).spent.put 1 b
set_option maxRecDepth 100000 in
/-- What Read says of two blocks. -/
theorem garb_sr (a b : ByteArray) : ∃ (R : SV) (E : Int), (GX a b).srV = .tuple #[R.val, .int .i64 E] ∧ ((getR a).2 ≠ 0 → (getR b).2 ≠ 0 → E = 28 ∧ R = SV.zero) := by
  refine ⟨(GX a b).sr.1, (GX a b).sr.2, rfl, fun ha hb => ?_⟩
  have h0 : (GX a b).on = true := rfl
  have r0 : ((GX a b).read 0).1 = a := by rw [read_now h0 ⟨by decide, by show _ < (100 : Int); decide⟩]; rfl
  have r1 : ((GX a b).read 1).1 = b := by rw [read_now h0 ⟨by decide, by show _ < (100 : Int); decide⟩]; rfl
  have za : (getR a).1 = SV.zero := by rcases getR_cases a with h | h; exact absurd h.1 ha; exact h.2
  have zb : (getR b).1 = SV.zero := by rcases getR_cases b with h | h; exact absurd h.1 hb; exact h.2
  have hbst : (GX a b).best 2 = SV.zero := by
    rw [best_two, r0, r1, za, zb, if_neg (by decide)]
  rw [sr_on h0, hbst, if_pos (.inl rfl)]
  exact ⟨rfl, rfl⟩
set_option maxRecDepth 100000 in
theorem small_sr (A : SV) (hok : A.ok) (hm : A.may) (hb : A.blocks = 90) : ((DV.fresh 100).spent.put 0 (putS A)).srV = .tuple #[SV.zero.val, .int .i64 28] := by
  unfold DV.srV
  have h0 : ((DV.fresh 100).spent.put 0 (putS A)).on = true := rfl
  have r0 : (((DV.fresh 100).spent.put 0 (putS A)).read 0).1 = putS A := by rw [read_now h0 ⟨by decide, by show _ < (100 : Int); decide⟩]; rfl
  have r1 : (((DV.fresh 100).spent.put 0 (putS A)).read 1).1 = zeroB := by rw [read_now h0 ⟨by decide, by show _ < (100 : Int); decide⟩]; rfl
  have hg := hok.1.1
  have hbst : ((DV.fresh 100).spent.put 0 (putS A)).best 2 = A := by
    rw [best_two, r0, r1, getR_zero, getR_put A hok hm, if_neg (by show ¬ A.gen < 0; omega)]
  rw [sr_on h0, hbst, if_pos (.inr (by rw [hb]; show (90 : Int) ≠ 100; decide))]

set_option maxRecDepth 100000 in
set_option maxHeartbeats 4000000 in
theorem walkSuperGarbageIn (a b : ByteArray) (S : SV) (w : World) (hS : S.ok) (ha : a.size = 256) (hb : b.size = 256) : Calls Try.prog 7 #[.string a, .string b, S.val] w (BoolPost w true) := by
  have HAok := Lib.hid (at_ok hS 90 (by unfold I64; omega))
  have haI : ((a.size : Int) != 256) = false := by simp [ha]
  have hbI : ((b.size : Int) != 256) = false := by simp [hb]
  have HA := Lib.hid ha
  have HB := Lib.hid hb
  have E1 := Lib.hid (show (DV.fresh 100).write 0 a = ((DV.fresh 100).spent.put 0 a, 0) from write_ok rfl ha ⟨by decide, by show (0 : Int) < 100; decide⟩ (by intro h; cases h))
  have E2 := Lib.hid (show ((DV.fresh 100).spent.put 0 a).write 1 b = (GX a b, 0) from write_ok rfl hb ⟨by decide, by show (1 : Int) < 100; decide⟩ (by intro h; cases h))
  have SM := Lib.hid (show (GX a b).small from put_small (d := ((DV.fresh 100).spent.put 0 a).spent) (put_small (d := (DV.fresh 100).spent) (fresh_small 100) ha) hb)
  obtain ⟨R, E, hR, hG⟩ := garb_sr a b
  have HR0 := Lib.hid hR
  have HG0 := Lib.hid hG
  obtain ⟨D2, hD2⟩ : ∃ D, D = GX a b := ⟨_, rfl⟩
  have B2 := Lib.hid (show D2.blocks = 100 by rw [hD2]; rfl)
  rw [← hD2] at E2 SM HR0
  obtain ⟨D1, hD1⟩ : ∃ D, D = (DV.fresh 100).spent.put 0 a := ⟨_, rfl⟩
  have W1 := Lib.hid (show D1.writes = 1 by rw [hD1]; rfl)
  rw [← hD1] at E1 E2
  obtain ⟨ga1, ga2, hga⟩ : ∃ x y, getR a = (x, y) := ⟨_, _, rfl⟩
  obtain ⟨gb1, gb2, hgb⟩ : ∃ x y, getR b = (x, y) := ⟨_, _, rfl⟩
  rw [hga, hgb] at HG0
  have HGA := Lib.hid (show getV a = .tuple #[ga1.val, .int .i64 ga2] by unfold getV; rw [hga])
  have HGB := Lib.hid (show getV b = .tuple #[gb1.val, .int .i64 gb2] by unfold getV; rw [hgb])
  dsimp only at HG0
  have hcase : (ga2 ≠ 0 ∧ gb2 ≠ 0) ∨ ga2 = 0 ∨ (ga2 ≠ 0 ∧ gb2 = 0) := by
    by_cases h1 : ga2 = 0
    · exact .inr (.inl h1)
    · by_cases h2 : gb2 = 0
      · exact .inr (.inr ⟨h1, h2⟩)
      · exact .inl ⟨h1, h2⟩
  clear hS ha hb hR hG hD2 hD1 hga hgb
  simp only [SV.val]
  go_enter Try.func7, Try.ntmps7
  go_wp2_with fail
  refine (new_any 100 _ (by omega)).mono ?_
  rintro e w1 ⟨q, rfl, hD, hb1⟩
  have HR1 := Lib.hid (heap_step (heap_alloc_new w (.cells #[.int .u64 S.gen, .int .i64 S.blocks, .int .i64 S.bytes] 24)) hb1)
  have HD1 := Lib.hid (show DiskAt w1 (w.heap.size + 1) q 0 (DV.fresh 100) by simpa using hD)
  have HB1 := Lib.hid (chain (bel_new w (.cells #[.int .u64 S.gen, .int .i64 S.blocks, .int .i64 S.bytes] 24)) hb1)
  clear hD hb1
  go_wp2_with fail
  refine (write_any 0 a HD1.out (by decide) (by unfold I64; omega) (by decide) (by rw [HA.out]; decide)).mono ?_
  rintro e w2 ⟨rfl, hd, hs⟩
  rw [E1.out] at hd ⊢
  have HD2 := Lib.hid hd
  have hlow := HD1.out.below hs
  have HR2 := Lib.hid (below_at hlow (by omega) HR1.out)
  have HB2 := Lib.hid (HB1.out.trans (hlow.mono (by omega)))
  clear hd hs hlow
  go_wp2_with fail
  refine (write_any 1 b HD2.out (by decide) (by unfold I64; omega) (by rw [W1.out]; decide) (by rw [HB.out]; decide)).mono ?_
  rintro e w3 ⟨rfl, hd, hs⟩
  rw [E2.out] at hd ⊢
  have HD3 := Lib.hid hd
  have hlow := HD2.out.below hs
  have HR3 := Lib.hid (below_at hlow (by omega) HR2.out)
  have HB3 := Lib.hid (HB2.out.trans (hlow.mono (by omega)))
  clear hd hs hlow
  go_wp2_with fail
  refine (get_any a _ (by rw [HA.out]; decide)).mono ?_
  rintro e w4 ⟨rfl, hb4⟩
  rw [HGA.out]
  have HD4 := Lib.hid (HD3.out.step (hb4))
  have HR4 := Lib.hid (heap_step HR3.out (hb4))
  have HB4 := Lib.hid (HB3.out.trans ((hb4).mono HB3.out.size))
  clear hb4
  simp only [SV.val]
  go_wp2_with fail
  refine (get_any b _ (by rw [HB.out]; decide)).mono ?_
  rintro e w5 ⟨rfl, hb5⟩
  rw [HGB.out]
  have HD5 := Lib.hid (HD4.out.step (chain (bel_new w4 _) hb5))
  have HR5 := Lib.hid (heap_step HR4.out (chain (bel_new w4 _) hb5))
  have HB5 := Lib.hid (HB4.out.trans ((chain (bel_new w4 _) hb5).mono HB4.out.size))
  clear hb5
  simp only [SV.val]
  go_wp2_with fail
  refine (sread_any (HD5.out.step (bel_new w5 _)) (by rw [B2.out]; decide) (fun k => read_small SM.out _)).mono ?_
  rintro e w6 ⟨rfl, hb6⟩
  rw [HR0.out]
  have HD6 := Lib.hid (HD5.out.step (chain (bel_new w5 _) hb6))
  have HR6 := Lib.hid (heap_step HR5.out (chain (bel_new w5 _) hb6))
  have HB6 := Lib.hid (HB5.out.trans ((chain (bel_new w5 _) hb6).mono HB5.out.size))
  clear hb6
  simp only [SV.val]
  have hr6 := HR6.out
  have hlt := heap_lt hr6
  obtain ⟨c0, c1, c2⟩ := cells3 hr6
  have f1 := frozen_row (o := 1) hr6
  clear hr6
  rcases hcase with ⟨h1, h2⟩ | h1 | ⟨h1, h2⟩
  · obtain ⟨rfl, rfl⟩ := HG0.out h1 h2
    have h1' : (ga2 != 0) = true := by simpa using h1
    have h2' : (gb2 != 0) = true := by simpa using h2
    clear h1 h2 HG0
    simp only [SV.zero]
    go_wp2_with fail
    clear c0 c1 c2 f1
    by_cases hm : (S.at 90).may
    · have HM := Lib.hid hm
      clear hm
      refine (put_yes (S.at 90) _ HAok.out HM.out).mono ?_
      rintro e w7 ⟨rfl, hb7⟩
      have HB7 := Lib.hid (chain (chain (bel_set HB6.out (Nat.le_refl _)) (bel_new _ _)) hb7)
      have ZT := Lib.hid (putS_size (S.at 90))
      have E3 := Lib.hid (show (DV.fresh 100).write 0 (putS (S.at 90)) = ((DV.fresh 100).spent.put 0 (putS (S.at 90)), 0) from write_ok rfl (putS_size _) ⟨by decide, by show (0 : Int) < 100; decide⟩ (by intro h; cases h))
      have R3 := Lib.hid (small_sr (S.at 90) HAok.out HM.out rfl)
      have SM3 := Lib.hid (show ((DV.fresh 100).spent.put 0 (putS (S.at 90))).small from put_small (d := (DV.fresh 100).spent) (fresh_small 100) (putS_size _))
      obtain ⟨t, ht⟩ : ∃ t, t = putS (S.at 90) := ⟨_, rfl⟩
      rw [← ht] at ZT E3 R3 SM3 ⊢
      obtain ⟨D3, hD3⟩ : ∃ D, D = (DV.fresh 100).spent.put 0 t := ⟨_, rfl⟩
      have B3 := Lib.hid (show D3.blocks = 100 by rw [hD3]; rfl)
      have O4 := Lib.hid (show (D3.cut []).on = false by rw [hD3]; rfl)
      have B4 := Lib.hid (show (D3.cut []).blocks = 100 by rw [hD3]; rfl)
      have R4 := Lib.hid (show (D3.cut []).srV = .tuple #[SV.zero.val, .int .i64 14] by unfold DV.srV DV.sr; rw [if_pos O4.out])
      rw [← hD3] at E3 R3 SM3
      clear hb7 ht hD3
      go_wp2_with fail
      refine (new_any 100 _ (by omega)).mono ?_
      rintro e w8 ⟨q2, rfl, hD, hb8⟩
      have HD8 := Lib.hid hD
      have HB8 := Lib.hid (chain HB7.out hb8)
      clear hD hb8
      go_wp2_with fail
      refine (write_any 0 t HD8.out (by decide) (by unfold I64; omega) (by decide) (by rw [ZT.out]; decide)).mono ?_
      rintro e w9 ⟨rfl, hd, hs⟩
      rw [E3.out] at hd ⊢
      have HD9 := Lib.hid hd
      have HB9 := Lib.hid (HB8.out.trans ((HD8.out.below hs).mono HB7.out.size))
      clear hd hs
      go_wp2_with fail
      refine (sread_any HD9.out (by rw [B3.out]; decide) (fun k => read_small SM3.out _)).mono ?_
      rintro e w10 ⟨rfl, hb10⟩
      rw [R3.out]
      have HD10 := Lib.hid (HD9.out.step (chain hb10 (bel_new w10 (.cells #[.int .u64 SV.zero.gen, .int .i64 SV.zero.blocks, .int .i64 SV.zero.bytes] 24))))
      have HB10 := Lib.hid (chain HB9.out (chain hb10 (bel_new w10 (.cells #[.int .u64 SV.zero.gen, .int .i64 SV.zero.blocks, .int .i64 SV.zero.bytes] 24))))
      clear hb10
      simp only [SV.val]
      go_wp2_with fail
      refine (cut_any _ [] HD10.out (ints_out_nil _ _) (by decide)).mono ?_
      rintro e w11 ⟨rfl, hd, hs⟩
      have HD11 := Lib.hid hd
      have HB11 := Lib.hid (HB10.out.trans ((HD10.out.below hs).mono HB7.out.size))
      clear hd hs
      go_wp2_with fail
      refine (sread_any HD11.out (by rw [B4.out]; decide) (fun k => by rw [read_off O4.out]; decide)).mono ?_
      rintro e w12 ⟨rfl, hb12⟩
      rw [R4.out]
      have HB12 := Lib.hid (chain HB11.out hb12)
      clear hb12
      simp only [SV.val]
      go_wp2_with fail
      refine (sread_nil _).mono ?_
      rintro e w13 ⟨rfl, hb13⟩
      have HB13 := Lib.hid (chain (chain HB12.out (bel_new _ _)) hb13)
      clear hb13
      simp only [SV.val]
      go_wp2_with fail
      refine (alive_any _).mono ?_
      rintro e w14 ⟨rfl, hb14⟩
      have HB14 := Lib.hid (chain (chain HB13.out (bel_new _ _)) hb14)
      clear hb14
      go_wp2
      go_ret
      exact ⟨rfl, HB14.out⟩
    · have HM := Lib.hid hm
      clear hm
      refine (put_no (S.at 90) _ HAok.out HM.out).mono ?_
      rintro e w7 ⟨rfl, hb7⟩
      have HB7 := Lib.hid (chain (chain (bel_set HB6.out (Nat.le_refl _)) (bel_new _ _)) hb7)
      clear hb7
      go_wp2_with fail
      refine (alive_any _).mono ?_
      rintro e w8 ⟨rfl, hb8⟩
      have HB8 := Lib.hid (chain HB7.out hb8)
      clear hb8
      go_wp2
      go_ret
      exact ⟨rfl, HB8.out⟩
  · subst h1
    clear HG0
    go_wp2_with fail
    clear c0 c1 c2 f1
    by_cases hm : (S.at 90).may
    · have HM := Lib.hid hm
      clear hm
      refine (put_yes (S.at 90) _ HAok.out HM.out).mono ?_
      rintro e w7 ⟨rfl, hb7⟩
      have HB7 := Lib.hid (chain (chain (bel_set HB6.out (Nat.le_refl _)) (bel_new _ _)) hb7)
      have ZT := Lib.hid (putS_size (S.at 90))
      have E3 := Lib.hid (show (DV.fresh 100).write 0 (putS (S.at 90)) = ((DV.fresh 100).spent.put 0 (putS (S.at 90)), 0) from write_ok rfl (putS_size _) ⟨by decide, by show (0 : Int) < 100; decide⟩ (by intro h; cases h))
      have R3 := Lib.hid (small_sr (S.at 90) HAok.out HM.out rfl)
      have SM3 := Lib.hid (show ((DV.fresh 100).spent.put 0 (putS (S.at 90))).small from put_small (d := (DV.fresh 100).spent) (fresh_small 100) (putS_size _))
      obtain ⟨t, ht⟩ : ∃ t, t = putS (S.at 90) := ⟨_, rfl⟩
      rw [← ht] at ZT E3 R3 SM3 ⊢
      obtain ⟨D3, hD3⟩ : ∃ D, D = (DV.fresh 100).spent.put 0 t := ⟨_, rfl⟩
      have B3 := Lib.hid (show D3.blocks = 100 by rw [hD3]; rfl)
      have O4 := Lib.hid (show (D3.cut []).on = false by rw [hD3]; rfl)
      have B4 := Lib.hid (show (D3.cut []).blocks = 100 by rw [hD3]; rfl)
      have R4 := Lib.hid (show (D3.cut []).srV = .tuple #[SV.zero.val, .int .i64 14] by unfold DV.srV DV.sr; rw [if_pos O4.out])
      rw [← hD3] at E3 R3 SM3
      clear hb7 ht hD3
      go_wp2_with fail
      refine (new_any 100 _ (by omega)).mono ?_
      rintro e w8 ⟨q2, rfl, hD, hb8⟩
      have HD8 := Lib.hid hD
      have HB8 := Lib.hid (chain HB7.out hb8)
      clear hD hb8
      go_wp2_with fail
      refine (write_any 0 t HD8.out (by decide) (by unfold I64; omega) (by decide) (by rw [ZT.out]; decide)).mono ?_
      rintro e w9 ⟨rfl, hd, hs⟩
      rw [E3.out] at hd ⊢
      have HD9 := Lib.hid hd
      have HB9 := Lib.hid (HB8.out.trans ((HD8.out.below hs).mono HB7.out.size))
      clear hd hs
      go_wp2_with fail
      refine (sread_any HD9.out (by rw [B3.out]; decide) (fun k => read_small SM3.out _)).mono ?_
      rintro e w10 ⟨rfl, hb10⟩
      rw [R3.out]
      have HD10 := Lib.hid (HD9.out.step (chain hb10 (bel_new w10 (.cells #[.int .u64 SV.zero.gen, .int .i64 SV.zero.blocks, .int .i64 SV.zero.bytes] 24))))
      have HB10 := Lib.hid (chain HB9.out (chain hb10 (bel_new w10 (.cells #[.int .u64 SV.zero.gen, .int .i64 SV.zero.blocks, .int .i64 SV.zero.bytes] 24))))
      clear hb10
      simp only [SV.val]
      go_wp2_with fail
      refine (cut_any _ [] HD10.out (ints_out_nil _ _) (by decide)).mono ?_
      rintro e w11 ⟨rfl, hd, hs⟩
      have HD11 := Lib.hid hd
      have HB11 := Lib.hid (HB10.out.trans ((HD10.out.below hs).mono HB7.out.size))
      clear hd hs
      go_wp2_with fail
      refine (sread_any HD11.out (by rw [B4.out]; decide) (fun k => by rw [read_off O4.out]; decide)).mono ?_
      rintro e w12 ⟨rfl, hb12⟩
      rw [R4.out]
      have HB12 := Lib.hid (chain HB11.out hb12)
      clear hb12
      simp only [SV.val]
      go_wp2_with fail
      refine (sread_nil _).mono ?_
      rintro e w13 ⟨rfl, hb13⟩
      have HB13 := Lib.hid (chain (chain HB12.out (bel_new _ _)) hb13)
      clear hb13
      simp only [SV.val]
      go_wp2_with fail
      refine (alive_any _).mono ?_
      rintro e w14 ⟨rfl, hb14⟩
      have HB14 := Lib.hid (chain (chain HB13.out (bel_new _ _)) hb14)
      clear hb14
      go_wp2
      go_ret
      exact ⟨rfl, HB14.out⟩
    · have HM := Lib.hid hm
      clear hm
      refine (put_no (S.at 90) _ HAok.out HM.out).mono ?_
      rintro e w7 ⟨rfl, hb7⟩
      have HB7 := Lib.hid (chain (chain (bel_set HB6.out (Nat.le_refl _)) (bel_new _ _)) hb7)
      clear hb7
      go_wp2_with fail
      refine (alive_any _).mono ?_
      rintro e w8 ⟨rfl, hb8⟩
      have HB8 := Lib.hid (chain HB7.out hb8)
      clear hb8
      go_wp2
      go_ret
      exact ⟨rfl, HB8.out⟩
  · subst h2
    have h1' : (ga2 != 0) = true := by simpa using h1
    clear h1 HG0
    go_wp2_with fail
    clear c0 c1 c2 f1
    by_cases hm : (S.at 90).may
    · have HM := Lib.hid hm
      clear hm
      refine (put_yes (S.at 90) _ HAok.out HM.out).mono ?_
      rintro e w7 ⟨rfl, hb7⟩
      have HB7 := Lib.hid (chain (chain (bel_set HB6.out (Nat.le_refl _)) (bel_new _ _)) hb7)
      have ZT := Lib.hid (putS_size (S.at 90))
      have E3 := Lib.hid (show (DV.fresh 100).write 0 (putS (S.at 90)) = ((DV.fresh 100).spent.put 0 (putS (S.at 90)), 0) from write_ok rfl (putS_size _) ⟨by decide, by show (0 : Int) < 100; decide⟩ (by intro h; cases h))
      have R3 := Lib.hid (small_sr (S.at 90) HAok.out HM.out rfl)
      have SM3 := Lib.hid (show ((DV.fresh 100).spent.put 0 (putS (S.at 90))).small from put_small (d := (DV.fresh 100).spent) (fresh_small 100) (putS_size _))
      obtain ⟨t, ht⟩ : ∃ t, t = putS (S.at 90) := ⟨_, rfl⟩
      rw [← ht] at ZT E3 R3 SM3 ⊢
      obtain ⟨D3, hD3⟩ : ∃ D, D = (DV.fresh 100).spent.put 0 t := ⟨_, rfl⟩
      have B3 := Lib.hid (show D3.blocks = 100 by rw [hD3]; rfl)
      have O4 := Lib.hid (show (D3.cut []).on = false by rw [hD3]; rfl)
      have B4 := Lib.hid (show (D3.cut []).blocks = 100 by rw [hD3]; rfl)
      have R4 := Lib.hid (show (D3.cut []).srV = .tuple #[SV.zero.val, .int .i64 14] by unfold DV.srV DV.sr; rw [if_pos O4.out])
      rw [← hD3] at E3 R3 SM3
      clear hb7 ht hD3
      go_wp2_with fail
      refine (new_any 100 _ (by omega)).mono ?_
      rintro e w8 ⟨q2, rfl, hD, hb8⟩
      have HD8 := Lib.hid hD
      have HB8 := Lib.hid (chain HB7.out hb8)
      clear hD hb8
      go_wp2_with fail
      refine (write_any 0 t HD8.out (by decide) (by unfold I64; omega) (by decide) (by rw [ZT.out]; decide)).mono ?_
      rintro e w9 ⟨rfl, hd, hs⟩
      rw [E3.out] at hd ⊢
      have HD9 := Lib.hid hd
      have HB9 := Lib.hid (HB8.out.trans ((HD8.out.below hs).mono HB7.out.size))
      clear hd hs
      go_wp2_with fail
      refine (sread_any HD9.out (by rw [B3.out]; decide) (fun k => read_small SM3.out _)).mono ?_
      rintro e w10 ⟨rfl, hb10⟩
      rw [R3.out]
      have HD10 := Lib.hid (HD9.out.step (chain hb10 (bel_new w10 (.cells #[.int .u64 SV.zero.gen, .int .i64 SV.zero.blocks, .int .i64 SV.zero.bytes] 24))))
      have HB10 := Lib.hid (chain HB9.out (chain hb10 (bel_new w10 (.cells #[.int .u64 SV.zero.gen, .int .i64 SV.zero.blocks, .int .i64 SV.zero.bytes] 24))))
      clear hb10
      simp only [SV.val]
      go_wp2_with fail
      refine (cut_any _ [] HD10.out (ints_out_nil _ _) (by decide)).mono ?_
      rintro e w11 ⟨rfl, hd, hs⟩
      have HD11 := Lib.hid hd
      have HB11 := Lib.hid (HB10.out.trans ((HD10.out.below hs).mono HB7.out.size))
      clear hd hs
      go_wp2_with fail
      refine (sread_any HD11.out (by rw [B4.out]; decide) (fun k => by rw [read_off O4.out]; decide)).mono ?_
      rintro e w12 ⟨rfl, hb12⟩
      rw [R4.out]
      have HB12 := Lib.hid (chain HB11.out hb12)
      clear hb12
      simp only [SV.val]
      go_wp2_with fail
      refine (sread_nil _).mono ?_
      rintro e w13 ⟨rfl, hb13⟩
      have HB13 := Lib.hid (chain (chain HB12.out (bel_new _ _)) hb13)
      clear hb13
      simp only [SV.val]
      go_wp2_with fail
      refine (alive_any _).mono ?_
      rintro e w14 ⟨rfl, hb14⟩
      have HB14 := Lib.hid (chain (chain HB13.out (bel_new _ _)) hb14)
      clear hb14
      go_wp2
      go_ret
      exact ⟨rfl, HB14.out⟩
    · have HM := Lib.hid hm
      clear hm
      refine (put_no (S.at 90) _ HAok.out HM.out).mono ?_
      rintro e w7 ⟨rfl, hb7⟩
      have HB7 := Lib.hid (chain (chain (bel_set HB6.out (Nat.le_refl _)) (bel_new _ _)) hb7)
      clear hb7
      go_wp2_with fail
      refine (alive_any _).mono ?_
      rintro e w8 ⟨rfl, hb8⟩
      have HB8 := Lib.hid (chain HB7.out hb8)
      clear hb8
      go_wp2
      go_ret
      exact ⟨rfl, HB8.out⟩

theorem walkSuperGarbage (a b : ByteArray) (S : SV) (w : World) (ha : a.size ≤ 9223372036854775807) (hb : b.size ≤ 9223372036854775807) (hS : S.ok) : Calls Try.prog 7 #[.string a, .string b, S.val] w (BoolPost w true) := by
  by_cases h : a.size = 256 ∧ b.size = 256
  · exact walkSuperGarbageIn a b S w hS h.1 h.2
  · have hd : ((a.size : Int) != 256) = true ∨ (((a.size : Int) != 256) = false ∧ ((b.size : Int) != 256) = true) := by
      by_cases h1 : a.size = 256
      · right; have h2 : b.size ≠ 256 := fun h2 => h ⟨h1, h2⟩
        exact ⟨by simp [h1], by simp; omega⟩
      · left; simp; omega
    clear h hS
    simp only [SV.val]
    go_enter Try.func7, Try.ntmps7
    rcases hd with hd | ⟨hd1, hd2⟩
    · go_wp2_with fail
      refine (alive_any _).mono ?_
      rintro e w1 ⟨rfl, hb1⟩
      go_wp2
      go_ret
      exact ⟨rfl, chain (bel_new w _) hb1⟩
    · go_wp2_with fail
      refine (alive_any _).mono ?_
      rintro e w1 ⟨rfl, hb1⟩
      go_wp2
      go_ret
      exact ⟨rfl, chain (bel_new w _) hb1⟩
end Go.Proofs.Ytabkeggcaacldaa
