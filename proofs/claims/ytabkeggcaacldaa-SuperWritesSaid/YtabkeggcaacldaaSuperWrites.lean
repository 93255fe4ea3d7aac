/-
  The walk of the law SuperWrites.
-/
import Derived.Test.YtabkeggcaacldaaSuperSt
namespace Go.Proofs.Ytabkeggcaacldaa
open Go.RowKit
set_option linter.unusedVariables false
set_option linter.unusedSimpArgs false

/-- What holds ahead of the k-th of the loop's rounds. -/
structure LP (w0 w : World) (B q t : Nat) (gen : Int) (k : Nat) : Prop where
  ex : ∃ d L, SWAt w0 w B q (2 + k) d t L ∧ Safe d L ∧ Good L ∧ L.gen = gen + k ∧ 0 ≤ d.writes ∧ d.writes ≤ 100 + 3 * k

set_option maxRecDepth 100000 in
set_option maxHeartbeats 8000000 in
theorem walkSuperWritesIn (gen n : Int) (v1 v2 : Value) (l1 l2 : List Int) (w : World) (g1 : 0 < gen) (g2 : gen ≤ 1152921504606846976) (n1 : 0 ≤ n) (n2 : n ≤ 60) (h1 : IntsAt w v1 l1) (h2 : IntsAt w v2 l2) (z1 : l1.length ≤ 12) (z2 : l2.length ≤ 10) :
    Calls Try.prog 8 #[.int .u64 gen, v1, .int .i64 n, v2] w (BoolPost w true) := by
  have HI1 := Lib.hid h1
  have HI2 := Lib.hid h2
  obtain ⟨a1, ca1, rfl, -, -, -⟩ := h1
  obtain ⟨a2, ca2, rfl, -, -, -⟩ := h2
  have z1I : (l1.length : Int) ≤ 12 := by omega
  have z2I : (l2.length : Int) ≤ 10 := by omega
  have hg0 : (gen == 0) = false := by simp; omega
  have HZ2 := Lib.hid z2
  clear z1 z2
  have E1 := Lib.hid (show (DV.fresh 70).write 5 (fillB 122) = (ZD, 0) from write_ok rfl (fillB_size 122) ⟨by decide, by show (5 : Int) < 70; decide⟩ (by intro h; cases h))
  have ZO : (s70 gen).ok ∧ (s70 gen).may := by have := good70 (g := gen) g1 (by omega) 0 (by decide) (by decide); exact ⟨this.1, this.2.1⟩
  have HZO := Lib.hid ZO.1
  have E2 := Lib.hid (show ZD.sw (s70 gen) = (ZD.swd (s70 gen), 0) from sw_ok rfl rfl (by show (2 : Int) ≤ 70; decide) ZO.1 ZO.2)
  have HSAFE := Lib.hid (ad_safe (g := gen) (n := n) (K := l2) g1 (by omega) n1)
  have HGOOD := Lib.hid (show Good (s70 gen) from good70 g1 (by omega) 0 (by decide) (by decide))
  have HFS := Lib.hid (fillB_size 122)
  have HZSM := Lib.hid (show ZD.small from put_small (d := (DV.fresh 70).spent) (fresh_small 70) (fillB_size 122))
  obtain ⟨F, hF⟩ : ∃ F, F = fillB 122 := ⟨_, rfl⟩
  have HF := Lib.hid hF
  rw [← hF] at E1 HFS
  clear ZO hF
  go_enter Try.func8, Try.ntmps8
  go_wp2_with fail
  refine (new_any 70 _ (by omega)).mono ?_
  rintro e w1 ⟨q, rfl, hD, hb1⟩
  have HD1 := Lib.hid hD
  have HB1 := Lib.hid hb1
  clear hD hb1
  go_wp2_with fail
  refine (fill_any 122 _ (by omega)).mono ?_
  rintro e w2 ⟨rfl, hb2⟩
  rw [← HF.out]
  have HD2 := Lib.hid (HD1.out.step hb2)
  have HB2 := Lib.hid (chain HB1.out hb2)
  clear hb2
  go_wp2_with fail
  refine (write_any 5 F HD2.out (by decide) (by unfold I64; omega) (by decide) (by rw [HFS.out]; decide)).mono ?_
  rintro e w3 ⟨rfl, hd, hs⟩
  rw [E1.out] at hd ⊢
  have HD3 := Lib.hid hd
  have HB3 := Lib.hid (HB2.out.trans (HD2.out.below hs))
  clear hd hs
  go_wp2_with fail
  refine (sread_any HD3.out (by show (2 : Int) ≤ 70; decide) (fun k => read_small HZSM.out _)).mono ?_
  rintro e w4 ⟨rfl, hb4⟩
  rw [zd_sr]
  have HD4 := Lib.hid (HD3.out.step (chain hb4 (bel_new w4 (.cells #[.int .u64 0, .int .i64 0, .int .i64 0] 24))))
  have HB4 := Lib.hid (chain HB3.out (chain hb4 (bel_new w4 (.cells #[.int .u64 0, .int .i64 0, .int .i64 0] 24))))
  clear hb4
  simp only [SV.val, SV.zero]
  go_wp2_with fail
  refine (swrite_any (s70 gen) HD4.out (by decide) (by decide) HZO.out).mono ?_
  rintro e w5 ⟨rfl, hd, hs⟩
  rw [E2.out] at hd ⊢
  have HD5 := Lib.hid hd
  have HB5 := Lib.hid (HB4.out.trans (HD4.out.below hs))
  clear hd hs
  go_wp2_with fail
  refine (arm_any n _ l2 (HD5.out.step (bel_new w5 _)) (HI2.out.below (chain HB5.out (bel_new w5 _))) (by unfold I64; omega) (by have := HZ2.out; omega)).mono ?_
  rintro e w6 ⟨rfl, hd, hs⟩
  have HS6 := Lib.hid (show LP w w6 w.heap.size q w5.heap.size gen 0 from by
    have hb := bel_new w5 (.cells #[.int .u64 (s70 gen).gen, .int .i64 (s70 gen).blocks, .int .i64 (s70 gen).bytes] 24)
    have hbes : Bes (w5.alloc (.cells #[.int .u64 (s70 gen).gen, .int .i64 (s70 gen).blocks, .int .i64 (s70 gen).bytes] 24)) q w5.heap.size (.cells #[.int .u64 (s70 gen).gen, .int .i64 (s70 gen).blocks, .int .i64 (s70 gen).bytes] 24) := ⟨own_old HD5.out hb (Nat.le_refl _), heap_alloc_new _ _⟩
    have h0 : SWAt w (w5.alloc (.cells #[.int .u64 (s70 gen).gen, .int .i64 (s70 gen).blocks, .int .i64 (s70 gen).bytes] 24)) w.heap.size q 2 (ZD.swd (s70 gen)) w5.heap.size (s70 gen) := ⟨(HD5.out.step hb).mono (by decide), hbes, chain HB5.out hb, ⟨Nat.le_refl _, HB5.out.size⟩⟩
    refine ⟨⟨AD gen n l2, s70 gen, h0.ret (hd.mono (by decide)) hs, HSAFE.out, HGOOD.out, by show gen = gen + ((0 : Nat) : Int); omega, by show (0 : Int) ≤ 4; decide, by show (4 : Int) ≤ 100; decide⟩⟩)
  clear hd hs
  have hw56 : w.heap.size ≤ w5.heap.size := HB5.out.size
  obtain ⟨t, ht⟩ : ∃ t, t = w5.heap.size := ⟨_, rfl⟩
  rw [← ht] at HS6 hw56 ⊢
  clear HD1 HB1 HD2 HB2 HD3 HB3 HD4 HB4 HD5 HB5 E1 E2 HSAFE HGOOD HFS HZSM HZO HI2 HZ2 ht
  go_wp2
  go_loopw [13] (fun x wr => ∃ k : Nat, k ≤ l1.length ∧ x = .int .i64 k ∧ Hid (LP w wr w.heap.size q t gen k)) (fun x _ => l1.length - (intOf x).toNat)
  case atStart => exact ⟨0, Nat.zero_le _, rfl, HS6⟩
  case round =>
    obtain ⟨k, hk, rfl, HK⟩ := hrel
    by_cases hlt : k < l1.length
    · obtain ⟨d, L, hW, hS, hG, hgen, hw1, hw2⟩ := HK.out.ex
      obtain ⟨x, hx, hxI, b, o, rfl, hcell⟩ : ∃ x : Int, x = l1.getD k 0 ∧ I64 x ∧ ∃ b o, a1 = some ⟨b, o, none⟩ ∧ wr.cell? ⟨b, o + k, none⟩ = some (.int .i64 x) := by
        obtain ⟨a, c, e1, e2, e3, e4⟩ := HI1.out
        obtain ⟨b, o, e5, e6, e7⟩ := e4 (fun h => by rw [h] at hlt; exact absurd hlt (Nat.not_lt_zero _))
        injection e1 with e1 _ _
        refine ⟨_, rfl, ?_, b, o, by rw [e1, e5], (hW.bel.cell (p := ⟨b, o + k, none⟩) e6).trans (e7 k hlt)⟩
        exact e2 _ (by rw [List.getD_eq_getElem?_getD, List.getElem?_eq_getElem hlt]; exact List.getElem_mem hlt)
      obtain ⟨y, hy⟩ : ∃ y, y = x % 1024 := ⟨_, rfl⟩
      have hand : bits .and .i64 x 1023 = y := by rw [and1023, hy]
      have hg' : L.gen ≤ 1152921504606847000 := by rw [hgen]; omega
      have hg'' : 0 < L.gen := by rw [hgen]; omega
      have hgs : Good ⟨L.gen + 1, 70, y⟩ := good70 (by omega) (by omega) y (by omega) (by omega)
      have HW := Lib.hid hW
      have hstep := safe_step hS hG hgs rfl
      have hww := sw_writes d ⟨L.gen + 1, 70, y⟩
      obtain ⟨r, E, hr⟩ : ∃ r E, d.sw ⟨L.gen + 1, 70, y⟩ = (r, E) := ⟨_, _, rfl⟩
      rw [hr] at hstep hww
      dsimp only at hstep hww
      obtain ⟨X, hX, hXG, hcase⟩ : ∃ X, Live r.restore X ∧ Good X ∧ ((E = 0 ∧ X = ⟨L.gen + 1, 70, y⟩ ∧ Safe r.restore ⟨L.gen + 1, 70, y⟩) ∨ (E = 14 ∧ r.on = false ∧ X = ⟨L.gen + 1, 70, y⟩) ∨ (E = 14 ∧ r.on = false ∧ X = L)) := by
        rcases hstep with ⟨q1, q2⟩ | ⟨q1, q2, X, rfl | rfl, q4⟩
        · exact ⟨_, q2.live, hgs, .inl ⟨q1, rfl, q2⟩⟩
        · exact ⟨_, q4, hgs, .inr (.inl ⟨q1, q2, rfl⟩)⟩
        · exact ⟨_, q4, hG, .inr (.inr ⟨q1, q2, rfl⟩)⟩
      have HR := Lib.hid hr
      have HGS := Lib.hid hgs
      have HGEN := Lib.hid (show L.gen + 1 = gen + ((k + 1 : Nat) : Int) by rw [hgen]; omega)
      have HWR := Lib.hid (show 0 ≤ d.writes ∧ d.writes ≤ 100 + 3 * k from ⟨hw1, hw2⟩)
      have HWW := Lib.hid hww
      have HLV := Lib.hid hX
      have HSR := Lib.hid (show r.restore.srV = .tuple #[X.val, .int .i64 0] by unfold DV.srV; rw [live_sr hX hXG])
      have HRW := Lib.hid (restore_writes r)
      have H5 := Lib.hid (live_five hX)
      have HCA := Lib.hid hcase
      have hwrap : IntKind.u64.wrap (L.gen + 1) = L.gen + 1 := by simp [IntKind.wrap, IntKind.bits, IntKind.signed]; omega
      obtain ⟨c0, c1, c2⟩ := cells3 hW.bes.2
      have hlt12 : k ≤ 12 := by omega
      clear hW hS hG hx hy hgs hw1 hw2 hgen HK hstep hww hr hX hXG hcase
      go_wp2_with fail
      refine wp_region_inv (R := Blw) (S := (fun w' => (SWAt w w' w.heap.size q (2 + k) d t L ∧ Below wr.heap.size wr w') ∧ w'.cell? ⟨t, 0, none⟩ = some (.int .u64 L.gen) ∧ w'.cell? ⟨b, o + k, none⟩ = some (.int .i64 x))) 10 (Spec.val ?_ :: Spec.val ?_ :: Spec.val ?_ :: Spec.val ?_ :: Spec.val ?_ :: Spec.val ?_ :: Spec.val ?_ :: Spec.val ?_ :: Spec.val ?_ :: (ptrS wr.heap.size (.cells #[.int .u64 0, .int .i64 0, .int .i64 0] 24)) :: []) (by kernel_rfl) (by kernel_rfl) rfl (fun w1 w2 h hb => ⟨⟨h.1.1.step_ hb, chain h.1.2 hb⟩, cell_step h.2.1 hb, cell_step h.2.2 hb⟩) (⟨⟨HW.out.step_ (Below.refl _ _).drew, (Below.refl _ _).drew⟩, c0, hcell⟩) ?hm1
      case' hm1 => skip
      refine inv_val (i := 0) (by kernel_rfl) rfl rfl (fun w1 hS hd K hK => ?_) ?_
      · (try dsimp only at hS); go_simp; exact hK.out _ _ (by simp only [Act.put, List.setIfInBounds_toArray, List.set_cons_zero, List.set_cons_succ, List.nil_append, List.cons_append]; rfl) (Below.refl _ _)
      simp only [Act.put, List.setIfInBounds_toArray, List.set_cons_zero, List.set_cons_succ, List.nil_append, List.cons_append]
      refine inv_val (i := 1) (by kernel_rfl) rfl rfl (fun w1 hS hd K hK => ?_) ?_
      · (try dsimp only at hS); go_simp; exact hK.out _ _ (by simp only [Act.put, List.setIfInBounds_toArray, List.set_cons_zero, List.set_cons_succ, List.nil_append, List.cons_append]; rfl) (Below.refl _ _)
      simp only [Act.put, List.setIfInBounds_toArray, List.set_cons_zero, List.set_cons_succ, List.nil_append, List.cons_append]
      refine inv_val (i := 2) (by kernel_rfl) rfl rfl (fun w1 hS hd K hK => ?_) ?_
      · (try dsimp only at hS); go_simp; exact hK.out _ _ (by simp only [Act.put, List.setIfInBounds_toArray, List.set_cons_zero, List.set_cons_succ, List.nil_append, List.cons_append]; rfl) (Below.refl _ _)
      simp only [Act.put, List.setIfInBounds_toArray, List.set_cons_zero, List.set_cons_succ, List.nil_append, List.cons_append]
      refine inv_val (i := 3) (by kernel_rfl) rfl rfl (fun w1 hS hd K hK => ?_) ?_
      · (try dsimp only at hS); go_simp; exact hK.out _ _ (by simp only [Act.put, List.setIfInBounds_toArray, List.set_cons_zero, List.set_cons_succ, List.nil_append, List.cons_append]; rfl) (Below.refl _ _)
      simp only [Act.put, List.setIfInBounds_toArray, List.set_cons_zero, List.set_cons_succ, List.nil_append, List.cons_append]
      refine inv_val (i := 4) (by kernel_rfl) rfl rfl (fun w1 hS hd K hK => ?_) ?_
      · (try dsimp only at hS); go_simp; exact hK.out _ _ (by simp only [Act.put, List.setIfInBounds_toArray, List.set_cons_zero, List.set_cons_succ, List.nil_append, List.cons_append]; rfl) (Below.refl _ _)
      simp only [Act.put, List.setIfInBounds_toArray, List.set_cons_zero, List.set_cons_succ, List.nil_append, List.cons_append]
      refine inv_val (i := 5) (by kernel_rfl) rfl rfl (fun w1 hS hd K hK => ?_) ?_
      · (try dsimp only at hS); go_simp; exact hK.out _ _ (by simp only [Act.put, List.setIfInBounds_toArray, List.set_cons_zero, List.set_cons_succ, List.nil_append, List.cons_append]; rfl) (Below.refl _ _)
      simp only [Act.put, List.setIfInBounds_toArray, List.set_cons_zero, List.set_cons_succ, List.nil_append, List.cons_append]
      refine inv_val (i := 6) (by kernel_rfl) rfl rfl (fun w1 hS hd K hK => ?_) ?_
      · (try dsimp only at hS); go_simp; exact hK.out _ _ (by simp only [Act.put, List.setIfInBounds_toArray, List.set_cons_zero, List.set_cons_succ, List.nil_append, List.cons_append]; rfl) (Below.refl _ _)
      simp only [Act.put, List.setIfInBounds_toArray, List.set_cons_zero, List.set_cons_succ, List.nil_append, List.cons_append]
      refine inv_val (i := 7) (by kernel_rfl) rfl rfl (fun w1 hS hd K hK => ?_) ?_
      · (try dsimp only at hS); go_simp; exact hK.out _ _ (by simp only [Act.put, List.setIfInBounds_toArray, List.set_cons_zero, List.set_cons_succ, List.nil_append, List.cons_append]; rfl) (Below.refl _ _)
      simp only [Act.put, List.setIfInBounds_toArray, List.set_cons_zero, List.set_cons_succ, List.nil_append, List.cons_append]
      refine inv_val (i := 8) (by kernel_rfl) rfl rfl (fun w1 hS hd K hK => ?_) ?_
      · (try dsimp only at hS); go_simp; exact hK.out _ _ (by simp only [Act.put, List.setIfInBounds_toArray, List.set_cons_zero, List.set_cons_succ, List.nil_append, List.cons_append]; rfl) (Below.refl _ _)
      simp only [Act.put, List.setIfInBounds_toArray, List.set_cons_zero, List.set_cons_succ, List.nil_append, List.cons_append]
      refine inv_new (i := 9) (by kernel_rfl) rfl rfl (fun w1 hS hd K hK => ?_) (fun v9 => ?_)
      · (try dsimp only at hS); go_simp; exact hK.out _ _ _ (by simp only [Act.put, List.setIfInBounds_toArray, List.set_cons_zero, List.set_cons_succ, List.nil_append, List.cons_append] <;> rfl) (ptr_new _ _ hS.1.2.size) (ptr_own _) (bel_new _ _)
      simp only [Act.put, List.setIfInBounds_toArray, List.set_cons_zero, List.set_cons_succ, List.nil_append, List.cons_append]
      refine inv_tail1 (by kernel_rfl) rfl (fun w2 hS hd => ?_)
      obtain ⟨b9, e9, hge9, hb9⟩ : ∃ b, v9 = .pointer (some ⟨b, 0, none⟩) ∧ wr.heap.size ≤ b ∧ w2.heap[b]? = some (.cells #[.int .u64 0, .int .i64 0, .int .i64 0] 24) := hd.out 9
      subst e9
      (try simp only [hwrap])
      have hbes : Bes w2 q b9 (.cells #[.int .u64 0, .int .i64 0, .int .i64 0] 24) := ⟨own_old HW.out.disk hS.1.2 hge9, hb9⟩
      have hne : b9 ≠ t := by have := heap_lt HW.out.bes.2; omega
      have hfr := hS.1.1.fresh ⟨L.gen + 1, 70, y⟩ hbes hne (by have := HW.out.bel.size; omega)
      have HW3 := Lib.hid hfr.1
      have HB3 := Lib.hid hfr.2
      have HNE := Lib.hid hne
      obtain ⟨e0, e1, e2⟩ := cells3 hb9
      have f0 := frozen_row (o := 0) hb9
      have f1 := frozen_row (o := 1) hb9
      have f2 := frozen_row (o := 2) hb9
      clear hS hd hbes hne hfr hge9 hb9 c0 c1 c2 hand hcell HW hwrap
      go_wp2_with fail
      refine (swrite_any ⟨L.gen + 1, 70, y⟩ HW3.out.disk (by omega) (by have := HWR.out; omega) HGS.out.1).mono ?_
      rintro e w4 ⟨rfl, hd4, hs4⟩
      rw [HR.out] at hd4 ⊢
      have HW4 := Lib.hid (HW3.out.ret hd4 hs4)
      have HB4 := Lib.hid (HB3.out.ret hs4)
      clear hd4 hs4 e0 e1 e2 f0 f1 f2
      go_wp2_with fail
      refine (on_any HW4.out.disk).mono ?_
      rintro e w5 ⟨rfl, hb5⟩
      have HW5 := Lib.hid (HW4.out.step_ hb5)
      have HB5 := Lib.hid (HB4.out.ret (HW4.out.disk.dstep hb5))
      clear hb5
      go_wp2_with fail
      refine (restore_any HW5.out.disk).mono ?_
      rintro e w6 ⟨rfl, hd6, hs6⟩
      have HW6 := Lib.hid (HW5.out.ret hd6 hs6)
      have HB6 := Lib.hid (HB5.out.ret hs6)
      clear hd6 hs6
      go_wp2_with fail
      refine (sread_any HW6.out.disk (by rw [HLV.out.bl]; decide) (fun k => read_small HLV.out.sm _)).mono ?_
      rintro e w7 ⟨rfl, hb7⟩
      rw [HSR.out]
      have HW7 := Lib.hid (HW6.out.step_ hb7)
      have HB7 := Lib.hid (HB6.out.ret (HW6.out.disk.dstep hb7))
      clear hb7
      simp only [SV.val]
      obtain ⟨c0, c1, c2⟩ := cells3 HW7.out.bes.2
      obtain ⟨e0, e1, e2⟩ := cells3 HB7.out.2
      have f0 := frozen_row (o := 0) HW7.out.bes.2
      have f1 := frozen_row (o := 1) HW7.out.bes.2
      have f2 := frozen_row (o := 2) HW7.out.bes.2
      have s0 := heap_lt HW7.out.bes.2
      have s1 := heap_lt HB7.out.2
      rcases HCA.out with ⟨rfl, rfl, hsafe⟩ | ⟨rfl, ho, rfl⟩ | ⟨rfl, ho, rfl⟩
      · have HSF := Lib.hid hsafe
        clear hsafe HCA
        go_wp2
        go_roundw
        case rel =>
          exact ⟨k + 1, hlt, by go_num, Lib.hid ⟨⟨r.restore, ⟨L.gen + 1, 70, y⟩, (HW7.out.set ⟨L.gen + 1, 70, y⟩).step_ (bel_new _ _), HSF.out, HGS.out, HGEN.out, by rw [HRW.out]; have := HWR.out; have := HWW.out; omega, by rw [HRW.out]; have := HWR.out; have := HWW.out; omega⟩⟩⟩
        case measure => simp [intOf]; omega
      · rw [ho]
        clear ho HCA
        go_wp2_with fail
        refine (read_any 5 (HW7.out.disk.step (bel_new _ _)) (by unfold I64; omega)).mono ?_
        rintro e w8 ⟨rfl, hb8⟩
        rw [H5.out, ← HF.out]
        have HB8 := Lib.hid (HW7.out.bel.trans ((chain (bel_new w7 _) hb8).mono HW7.out.bel.size))
        clear hb8 c0 c1 c2 e0 e1 e2 f0 f1 f2
        go_wp2_with fail
        refine (alive_any _).mono ?_
        rintro e w9 ⟨rfl, hb9⟩
        have HB9 := Lib.hid (HB8.out.trans (hb9.mono HB8.out.size))
        clear hb9
        go_wp2_with fail
        refine (fill_any 122 _ (by omega)).mono ?_
        rintro e w10 ⟨rfl, hb10⟩
        rw [← HF.out]
        have HB10 := Lib.hid (HB9.out.trans (hb10.mono HB9.out.size))
        have hq : (F.toList == F.toList) = true := by simp
        clear hb10
        go_wp2
        go_ret
        exact ⟨rfl, HB10.out⟩
      · rw [ho]
        clear ho HCA
        go_wp2_with fail
        refine (read_any 5 (HW7.out.disk.step (bel_new _ _)) (by unfold I64; omega)).mono ?_
        rintro e w8 ⟨rfl, hb8⟩
        rw [H5.out, ← HF.out]
        have HB8 := Lib.hid (HW7.out.bel.trans ((chain (bel_new w7 _) hb8).mono HW7.out.bel.size))
        clear hb8 c0 c1 c2 e0 e1 e2 f0 f1 f2
        go_wp2_with fail
        refine (alive_any _).mono ?_
        rintro e w9 ⟨rfl, hb9⟩
        have HB9 := Lib.hid (HB8.out.trans (hb9.mono HB8.out.size))
        clear hb9
        go_wp2_with fail
        refine (fill_any 122 _ (by omega)).mono ?_
        rintro e w10 ⟨rfl, hb10⟩
        rw [← HF.out]
        have HB10 := Lib.hid (HB9.out.trans (hb10.mono HB9.out.size))
        have hq : (F.toList == F.toList) = true := by simp
        clear hb10
        go_wp2
        go_ret
        exact ⟨rfl, HB10.out⟩
    · go_wp2_with fail
      refine (alive_any _).mono ?_
      rintro e w7 ⟨rfl, hb7⟩
      obtain ⟨d, L, hW, _⟩ := HK.out.ex
      have HB := Lib.hid (hW.bel.trans (hb7.mono hW.bel.size))
      clear hW hb7 HK
      go_wp2
      go_ret
      exact ⟨rfl, HB.out⟩

theorem wfu64' {a : Int} (h : (Lit.int .u64 a).wf = true) : 0 ≤ a ∧ a ≤ 18446744073709551615 := by
  simp [Lit.wf, IntKind.bits, IntKind.signed, IntKind.min, IntKind.max] at h; omega
set_option maxRecDepth 100000 in
set_option maxHeartbeats 4000000 in
theorem walkSuperWrites (gen : Int) (wg : (Lit.int .u64 gen).wf = true) (v1 : Value) (l1 : List Int) (n : Int) (wn : (Lit.int .i64 n).wf = true) (v2 : Value) (l2 : List Int) (w : World) (h1 : IntsAt w v1 l1) (h2 : IntsAt w v2 l2) :
    Calls Try.prog 8 #[.int .u64 gen, v1, .int .i64 n, v2] w (BoolPost w true) := by
  have hg : 0 ≤ gen ∧ gen ≤ 18446744073709551615 := wfu64' wg
  have hn := wf64' wn
  clear wg wn
  by_cases hin : 0 < gen ∧ gen ≤ 1152921504606846976 ∧ 0 ≤ n ∧ n ≤ 60 ∧ l1.length ≤ 12 ∧ l2.length ≤ 10
  · exact walkSuperWritesIn gen n v1 v2 l1 l2 w hin.1 hin.2.1 hin.2.2.1 hin.2.2.2.1 h1 h2 hin.2.2.2.2.1 hin.2.2.2.2.2
  · obtain ⟨a1, ca1, rfl, -, hc1, -⟩ := h1
    obtain ⟨a2, ca2, rfl, -, hc2, -⟩ := h2
    by_cases q0 : gen = 0
    · have q0' : (gen == 0) = true := by simp [q0]
      clear hin
      go_enter Try.func8, Try.ntmps8
      go_wp2_with fail
      refine (alive_any _).mono ?_
      rintro e w1 ⟨rfl, hb1⟩
      go_wp2
      go_ret
      exact ⟨rfl, hb1⟩
    · have q0' : (gen == 0) = false := by simp [q0]
      by_cases q1 : (1152921504606846976 : Int) < gen
      · clear hin
        go_enter Try.func8, Try.ntmps8
        go_wp2_with fail
        refine (alive_any _).mono ?_
        rintro e w1 ⟨rfl, hb1⟩
        go_wp2
        go_ret
        exact ⟨rfl, hb1⟩
      · by_cases q2 : (12 : Int) < l1.length
        · clear hin
          go_enter Try.func8, Try.ntmps8
          go_wp2_with fail
          refine (alive_any _).mono ?_
          rintro e w1 ⟨rfl, hb1⟩
          go_wp2
          go_ret
          exact ⟨rfl, hb1⟩
        · by_cases q3 : n < 0
          · clear hin
            go_enter Try.func8, Try.ntmps8
            go_wp2_with fail
            refine (alive_any _).mono ?_
            rintro e w1 ⟨rfl, hb1⟩
            go_wp2
            go_ret
            exact ⟨rfl, hb1⟩
          · by_cases q4 : 60 < n
            · clear hin
              go_enter Try.func8, Try.ntmps8
              go_wp2_with fail
              refine (alive_any _).mono ?_
              rintro e w1 ⟨rfl, hb1⟩
              go_wp2
              go_ret
              exact ⟨rfl, hb1⟩
            · have q5 : (10 : Int) < l2.length := by
                by_cases h : (10 : Int) < l2.length
                · exact h
                · exact absurd ⟨by omega, by omega, by omega, by omega, by omega, by omega⟩ hin
              clear hin
              go_enter Try.func8, Try.ntmps8
              go_wp2_with fail
              refine (alive_any _).mono ?_
              rintro e w1 ⟨rfl, hb1⟩
              go_wp2
              go_ret
              exact ⟨rfl, hb1⟩
end Go.Proofs.Ytabkeggcaacldaa
