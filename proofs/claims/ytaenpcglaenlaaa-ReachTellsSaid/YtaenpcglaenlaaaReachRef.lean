/-
  The document's Reach: each of its functions gives what the plain functions say.
-/
import Derived.Test.YtaenpcglaenlaaaReach3
import Derived.Test.YtaenpcglaenlaaaReachCheck
namespace Go.Proofs.Ytaenpcglaenlaaa
open Go.RowKit
set_option linter.unusedVariables false
set_option linter.unusedSimpArgs false

set_option maxHeartbeats 400000 in
theorem rfloor_any (t e : Int) (w : World) (ht : I64 t) (he : I64 e) :
    Calls Try.prog 42 #[.int .i64 t, .int .i64 e] w fun x w' => x = .returned (.int .i64 (gfloor t e)) ∧ w = w' := by
  unfold I64 at ht he
  by_cases h : e < 1
  · go_enter Try.func42, Try.ntmps42
    go_wp2
    go_ret
    exact ⟨ret_int (by unfold gfloor; rw [if_pos h]), rfl⟩
  · have hb := tmod_bound t e (by omega)
    have hm := tmod_eq t e (by omega)
    have hf := emod_facts t e (by omega)
    obtain ⟨b1, b2, b3, b4⟩ := hb
    obtain ⟨f1, f2, f3⟩ := hf
    have B : -9223372036854775808 ≤ t - t.tmod e ∧ t - t.tmod e ≤ 9223372036854775807 := by
      by_cases h0 : 0 ≤ t
      · have := b3 h0; omega
      · have := b4 (by omega); omega
    obtain ⟨r, hr⟩ : ∃ r, r = t % e := ⟨_, rfl⟩
    have HR := Lib.hid hr
    rw [← hr] at hm f1 f2 f3
    have hmr : t.tmod e = r ∨ t.tmod e = r - e := by split at hm <;> omega
    have HM := Lib.hid hm
    clear hm hr f3
    go_enter Try.func42, Try.ntmps42
    go_wp2
    all_goals go_ret
    all_goals
      refine ⟨ret_int ?_, rfl⟩
      have hm := HM.out
      unfold gfloor
      rw [← HR.out, if_neg (by omega)]
      split at hm <;> split <;> ((try unfold RowKit.wrap64); omega)

theorem gback_zero {t k e : Int} (h : t < k) (ht : 0 ≤ t) (he : 1 ≤ e) : max (gfloor (t - k) e) 0 = 0 := by
  have ⟨f1, f2, _⟩ := emod_facts (t - k) e he
  unfold gfloor
  rw [if_neg (by omega)]
  have hd := Int.mul_ediv_add_emod (t - k) e
  have hq : (t - k) / e ≤ -1 := by
    have := Int.ediv_lt_of_lt_mul (a := t - k) (b := 0) (c := e) (by omega) (by omega)
    omega
  have hq2 : e * ((t - k) / e) ≤ e * (-1) := Int.mul_le_mul_of_nonneg_left hq (by omega)
  rw [Int.mul_neg, Int.mul_one] at hq2
  split <;> omega
set_option maxHeartbeats 400000 in
theorem rback_any (t k e : Int) (w : World) (ht : I64 t) (hk : I64 k) (he : I64 e) :
    Calls Try.prog 39 #[.int .i64 t, .int .i64 k, .int .i64 e] w fun x w' => x = .returned (.int .i64 (gback t k e)) ∧ w = w' := by
  have he' := he
  unfold I64 at ht hk he
  by_cases h : t < 0 ∨ k < 0 ∨ e < 1 ∨ t < k
  · have H : Hid (gback t k e = 0) := Lib.hid (by
      unfold gback
      split
      · rfl
      · exact gback_zero (by omega) (by omega) (by omega))
    by_cases h1 : t < 0
    · go_enter Try.func39, Try.ntmps39
      go_wp2
      go_ret
      exact ⟨ret_int H.out.symm, rfl⟩
    · by_cases h2 : k < 0
      · go_enter Try.func39, Try.ntmps39
        go_wp2
        go_ret
        exact ⟨ret_int H.out.symm, rfl⟩
      · by_cases h3 : e < 1
        · go_enter Try.func39, Try.ntmps39
          go_wp2
          go_ret
          exact ⟨ret_int H.out.symm, rfl⟩
        · have h4 : t < k := by omega
          go_enter Try.func39, Try.ntmps39
          go_wp2
          go_ret
          exact ⟨ret_int H.out.symm, rfl⟩
  · have hf := emod_facts (t - k) e (by omega)
    have H : Hid (gback t k e = gfloor (t - k) e) := Lib.hid (by
      unfold gback
      rw [if_neg (by omega)]
      have : 0 ≤ gfloor (t - k) e := by
        unfold gfloor
        rw [if_neg (by omega)]
        have := hf.2.2 (by omega)
        split <;> omega
      omega)
    clear hf
    go_enter Try.func39, Try.ntmps39
    go_wp2_with (go_at_call 42; refine (rfloor_any _ _ _ (by unfold I64; omega) he').mono ?_; rintro x w' ⟨rfl, rfl⟩)
    all_goals go_ret
    all_goals exact ⟨ret_int H.out.symm, rfl⟩


set_option maxRecDepth 100000 in
set_option maxHeartbeats 1000000 in
theorem qfrom_any (v : Value) (r : RV) (k : Int) (w : World) (hv : ReachAt w v r) (hn : I64 r.now) (hk : I64 k) :
    Calls Try.prog 21 #[v, .int .i64 k] w (RetB w (.int .i64 (r.from k))) := by
  obtain ⟨tv, fv, rfl, ht, hf⟩ := hv
  obtain ⟨a, c, rfl, hok, hlen, hc⟩ := ht
  obtain ⟨fa, fc, rfl, hfk, hflen, hfc⟩ := hf
  have HC := Lib.hid hc
  have HFC := Lib.hid hfc
  have HOK := Lib.hid hok
  have HN := Lib.hid hn
  have HK := Lib.hid hk
  clear hc hfc hok hfk
  unfold I64 at hn hk
  by_cases h1 : r.is k = true
  · have h2 : 0 ≤ k ∧ k < r.l.length := by unfold RV.is at h1; simpa using h1
    clear h1
    obtain ⟨K, rfl⟩ : ∃ K : Nat, k = K := ⟨k.toNat, by omega⟩
    have hKn : ¬ (K : Int) < 0 := by omega
    have hKl : ¬ (r.l.length : Int) ≤ K := by omega
    obtain ⟨b, o, rfl, hb, hcl⟩ := HC.out (by intro h; rw [h] at h2; simp at h2; omega)
    obtain ⟨_, x1, x2, _⟩ := hcl K (by omega)
    have ok1 := HOK.out (r.l.getD K TierV.zero) (by rw [List.getD_eq_getElem?_getD, List.getElem?_eq_getElem (show K < r.l.length by omega)]; exact List.getElem_mem _)
    have e0 : r.from K = if K < r.fl.length then max (r.low K) (r.fl.getD K 0) else r.low K := by
      rw [r.from_nat K (by omega)]; rfl
    have hx1 := (bel_new w (.cells #[.int .i64 r.now, .string r.name, .slice (some ⟨b, o, none⟩) r.l.length c, .slice fa r.fl.length fc] 60)).cell (p := ⟨b, o + K * 4 + 1, none⟩) hb
    obtain ⟨kp, hkp⟩ : ∃ x, x = (r.l.getD K TierV.zero).keep := ⟨_, rfl⟩
    have hkI : I64 kp := by rw [hkp]; exact ok1.2.2.1
    obtain ⟨e1, he1⟩ : ∃ x, x = (r.l.getD K TierV.zero).every := ⟨_, rfl⟩
    have heI1 : I64 e1 := by rw [he1]; exact ok1.2.1
    by_cases hN : K + 1 < r.l.length
    · obtain ⟨_, y1, _, _⟩ := hcl (K + 1) hN
      have ok2 := HOK.out (r.l.getD (K + 1) TierV.zero) (by rw [List.getD_eq_getElem?_getD, List.getElem?_eq_getElem hN]; exact List.getElem_mem _)
      obtain ⟨ev, hev⟩ : ∃ x, x = (r.l.getD (K + 1) TierV.zero).every := ⟨_, rfl⟩
      have heI : I64 ev := by rw [hev]; exact ok2.2.1
      have hlow : r.low K = gback r.now kp ev := by unfold RV.low; rw [show min (K + 1) (r.l.length - 1) = K + 1 by omega, ← hkp, ← hev]
      have hNI : (K : Int) + 1 < r.l.length := by omega
      rw [← hkp] at x2
      rw [← he1] at x1
      rw [← hev] at y1
      have HX1 := Lib.hid x1
      have HX2 := Lib.hid x2
      have HY1 := Lib.hid y1
      have HEE := Lib.hid (show r.from K = if K < r.fl.length then max (gback r.now kp ev) (r.fl.getD K 0) else gback r.now kp ev by rw [e0, hlow])
      have HKI := Lib.hid hkI
      have HEI := Lib.hid heI
      have hx1 := x1
      have hx2 := x2
      have hy1 := y1
      clear hkp he1 hev ok1 hcl e0 hlow heI hkI heI1
      obtain ⟨G, hG⟩ : ∃ G, G = gback r.now kp ev := ⟨_, rfl⟩
      have HG := Lib.hid (show I64 G by rw [hG]; exact gback_I64 _ _ _ HN.out HKI.out HEI.out)
      rw [← hG] at HEE
      have HGE := Lib.hid hG
      clear hG
      go_enter Try.func21, Try.ntmps21
      go_wp2_with fail
      obtain ⟨w1, hw1⟩ : ∃ w1, w1 = w.alloc (.cells #[.int .i64 r.now, .string r.name, .slice (some ⟨b, o, none⟩) r.l.length c, .slice fa r.fl.length fc] 60) := ⟨_, rfl⟩
      rw [← hw1]
      have hb1 : Below w.heap.size w w1 := by rw [hw1]; exact bel_new _ _
      obtain ⟨c0, c1, c2, c3⟩ := row4 (show w1.heap[w.heap.size]? = some (.cells #[.int .i64 r.now, .string r.name, .slice (some ⟨b, o, none⟩) r.l.length c, .slice fa r.fl.length fc] 60) by rw [hw1]; exact heap_alloc_new _ _)
      have x2' := (hb1.cell (p := ⟨b, _, none⟩) hb).trans HX2.out
      have HB1 := Lib.hid hb1
      clear hw1 hb1 hx1 hx2 hy1
      refine wp_region_inv (R := Blw) (S := (fun w' => Below w.heap.size w w' ∧ w'.cell? ⟨w.heap.size, 0, none⟩ = some (.int .i64 r.now) ∧ w'.cell? ⟨w.heap.size, 2, none⟩ = some (.slice (some ⟨b, o, none⟩) r.l.length c) ∧ w'.cell? ⟨w.heap.size, 3, none⟩ = some (.slice fa r.fl.length fc) ∧ w'.cell? ⟨b, o + K * 4 + 2, none⟩ = some (.int .i64 kp))) 12 (Spec.val ?_ :: Spec.val ?_ :: Spec.val ?_ :: Spec.val ?_ :: Spec.val ?_ :: Spec.val ?_ :: Spec.val ?_ :: Spec.val ?_ :: Spec.val ?_ :: Spec.val ?_ :: Spec.val ?_ :: Spec.val ?_ :: []) (by kernel_rfl) (by kernel_rfl) rfl (fun w1 w2 h hb => ⟨chain h.1 hb, cell_step h.2.1 hb, cell_step h.2.2.1 hb, cell_step h.2.2.2.1 hb, cell_step h.2.2.2.2 hb⟩) (⟨HB1.out.drew, c0, c2, c3, x2'⟩) ?hm16
      case' hm16 => skip
      refine inv_val (i := 0) (by kernel_rfl) rfl rfl (fun w1 hS hd K hK => ?_) ?_
      · (try dsimp only at hS); go_simp; exact hK.out _ _ (by simp only [Act.put, List.setIfInBounds_toArray, List.set_cons_zero, List.set_cons_succ, List.nil_append, List.cons_append]; rfl) (Below.refl _ _)
      simp only [Act.put, List.setIfInBounds_toArray, List.set_cons_zero, List.set_cons_succ, List.nil_append, List.cons_append]
      refine inv_val (i := 1) (by kernel_rfl) rfl rfl (fun w1 hS hd K hK => ?_) ?_
      · (try dsimp only at hS); go_simp; exact hK.out _ _ (by simp only [Act.put, List.setIfInBounds_toArray, List.set_cons_zero, List.set_cons_succ, List.nil_append, List.cons_append]; rfl) (Below.refl _ _)
      simp only [Act.put, List.setIfInBounds_toArray, List.set_cons_zero, List.set_cons_succ, List.nil_append, List.cons_append]
      refine inv_val (i := 2) (by kernel_rfl) rfl rfl (fun w1 hS hd K hK => ?_) ?_
      · (try dsimp only at hS); go_simp; exact hK.out _ _ (by simp only [Act.put, List.setIfInBounds_toArray, List.set_cons_zero, List.set_cons_succ, List.nil_append, List.cons_append]; rfl) (Below.refl _ _)
      simp only [Act.put, List.setIfInBounds_toArray, List.set_cons_zero, List.set_cons_succ, List.nil_append, List.cons_append]
      refine inv_val (i := 3) (by kernel_rfl) rfl rfl (fun w1 hS hd K hK => ?_) ?_
      · (try dsimp only at hS); go_simp; exact hK.out _ _ (by simp only [Act.put, List.setIfInBounds_toArray, List.set_cons_zero, List.set_cons_succ, List.nil_append, List.cons_append]; rfl) (Below.refl _ _)
      simp only [Act.put, List.setIfInBounds_toArray, List.set_cons_zero, List.set_cons_succ, List.nil_append, List.cons_append]
      refine inv_val (i := 4) (by kernel_rfl) rfl rfl (fun w1 hS hd K hK => ?_) ?_
      · (try dsimp only at hS); go_simp; exact hK.out _ _ (by simp only [Act.put, List.setIfInBounds_toArray, List.set_cons_zero, List.set_cons_succ, List.nil_append, List.cons_append]; rfl) (Below.refl _ _)
      simp only [Act.put, List.setIfInBounds_toArray, List.set_cons_zero, List.set_cons_succ, List.nil_append, List.cons_append]
      refine inv_val (i := 5) (by kernel_rfl) rfl rfl (fun w1 hS hd K hK => ?_) ?_
      · (try dsimp only at hS); go_simp; exact hK.out _ _ (by simp only [Act.put, List.setIfInBounds_toArray, List.set_cons_zero, List.set_cons_succ, List.nil_append, List.cons_append]; rfl) (Below.refl _ _)
      simp only [Act.put, List.setIfInBounds_toArray, List.set_cons_zero, List.set_cons_succ, List.nil_append, List.cons_append]
      refine inv_val (i := 6) (by kernel_rfl) rfl rfl (fun w1 hS hd K hK => ?_) ?_
      · (try dsimp only at hS); go_simp; exact hK.out _ _ (by simp only [Act.put, List.setIfInBounds_toArray, List.set_cons_zero, List.set_cons_succ, List.nil_append, List.cons_append]; rfl) (Below.refl _ _)
      simp only [Act.put, List.setIfInBounds_toArray, List.set_cons_zero, List.set_cons_succ, List.nil_append, List.cons_append]
      refine inv_val (i := 7) (by kernel_rfl) rfl rfl (fun w1 hS hd K hK => ?_) ?_
      · (try dsimp only at hS); go_simp; exact hK.out _ _ (by simp only [Act.put, List.setIfInBounds_toArray, List.set_cons_zero, List.set_cons_succ, List.nil_append, List.cons_append]; rfl) (Below.refl _ _)
      simp only [Act.put, List.setIfInBounds_toArray, List.set_cons_zero, List.set_cons_succ, List.nil_append, List.cons_append]
      refine inv_val (i := 8) (by kernel_rfl) rfl rfl (fun w1 hS hd K hK => ?_) ?_
      · (try dsimp only at hS); go_simp; exact hK.out _ _ (by simp only [Act.put, List.setIfInBounds_toArray, List.set_cons_zero, List.set_cons_succ, List.nil_append, List.cons_append]; rfl) (Below.refl _ _)
      simp only [Act.put, List.setIfInBounds_toArray, List.set_cons_zero, List.set_cons_succ, List.nil_append, List.cons_append]
      refine inv_val (i := 9) (by kernel_rfl) rfl rfl (fun w1 hS hd K hK => ?_) ?_
      · (try dsimp only at hS); go_simp; exact hK.out _ _ (by simp only [Act.put, List.setIfInBounds_toArray, List.set_cons_zero, List.set_cons_succ, List.nil_append, List.cons_append]; rfl) (Below.refl _ _)
      simp only [Act.put, List.setIfInBounds_toArray, List.set_cons_zero, List.set_cons_succ, List.nil_append, List.cons_append]
      refine inv_val (i := 10) (by kernel_rfl) rfl rfl (fun w1 hS hd K hK => ?_) ?_
      · (try dsimp only at hS); go_simp; refine (rback_any _ _ _ _ HN.out HKI.out HEI.out).mono ?_; rintro e w2 ⟨rfl, rfl⟩; rw [← HGE.out]; exact hK.out _ _ (by simp only [Act.put, List.setIfInBounds_toArray, List.set_cons_zero, List.set_cons_succ, List.nil_append, List.cons_append]; rfl) (Below.refl _ _)
      simp only [Act.put, List.setIfInBounds_toArray, List.set_cons_zero, List.set_cons_succ, List.nil_append, List.cons_append]
      refine inv_val (i := 11) (by kernel_rfl) rfl rfl (fun w1 hS hd K hK => ?_) ?_
      · (try dsimp only at hS); go_simp; exact hK.out _ _ (by simp only [Act.put, List.setIfInBounds_toArray, List.set_cons_zero, List.set_cons_succ, List.nil_append, List.cons_append]; rfl) (Below.refl _ _)
      simp only [Act.put, List.setIfInBounds_toArray, List.set_cons_zero, List.set_cons_succ, List.nil_append, List.cons_append]
      refine inv_done (by kernel_rfl) (fun w2 hS hd => ?_)
      obtain ⟨hb2, _, _, c3', _⟩ := hS
      have HB2 := Lib.hid hb2
      clear hb2 hd c0 c1 c2 c3
      by_cases hf : K < r.fl.length
      · obtain ⟨b3, o3, rfl, hb3, hcl3⟩ := HFC.out (by intro h; rw [h] at hf; simp at hf)
        have z := (HB2.out.cell (p := ⟨b3, _, none⟩) hb3).trans (hcl3 K hf)
        obtain ⟨fx, hfx⟩ : ∃ x, x = r.fl.getD K 0 := ⟨_, rfl⟩
        rw [← hfx] at z HEE
        clear hcl3 hfx
        go_wp2_with fail
        go_ret
        exact ⟨ret_int (by rw [HEE.out, if_pos hf]), HB2.out⟩
      · go_wp2_with fail
        go_ret
        exact ⟨ret_int (by rw [HEE.out, if_neg hf]), HB2.out⟩
    · obtain ⟨ev, hev⟩ : ∃ ev, ev = e1 := ⟨_, rfl⟩
      have heI : I64 ev := by rw [hev]; exact heI1
      have hlow : r.low K = gback r.now kp ev := by unfold RV.low; rw [show min (K + 1) (r.l.length - 1) = K by omega, ← hkp, ← he1, hev]
      have hNI : ¬ (K : Int) + 1 < r.l.length := by omega
      have y1 : True := trivial
      rw [← hkp] at x2
      rw [← he1, ← hev] at x1
      have HX1 := Lib.hid x1
      have HX2 := Lib.hid x2
      have HY1 := Lib.hid y1
      have HEE := Lib.hid (show r.from K = if K < r.fl.length then max (gback r.now kp ev) (r.fl.getD K 0) else gback r.now kp ev by rw [e0, hlow])
      have HKI := Lib.hid hkI
      have HEI := Lib.hid heI
      have hx1 := x1
      have hx2 := x2
      have hy1 := y1
      clear hkp he1 hev ok1 hcl e0 hlow heI hkI heI1
      obtain ⟨G, hG⟩ : ∃ G, G = gback r.now kp ev := ⟨_, rfl⟩
      have HG := Lib.hid (show I64 G by rw [hG]; exact gback_I64 _ _ _ HN.out HKI.out HEI.out)
      rw [← hG] at HEE
      have HGE := Lib.hid hG
      clear hG
      go_enter Try.func21, Try.ntmps21
      go_wp2_with fail
      obtain ⟨w1, hw1⟩ : ∃ w1, w1 = w.alloc (.cells #[.int .i64 r.now, .string r.name, .slice (some ⟨b, o, none⟩) r.l.length c, .slice fa r.fl.length fc] 60) := ⟨_, rfl⟩
      rw [← hw1]
      have hb1 : Below w.heap.size w w1 := by rw [hw1]; exact bel_new _ _
      obtain ⟨c0, c1, c2, c3⟩ := row4 (show w1.heap[w.heap.size]? = some (.cells #[.int .i64 r.now, .string r.name, .slice (some ⟨b, o, none⟩) r.l.length c, .slice fa r.fl.length fc] 60) by rw [hw1]; exact heap_alloc_new _ _)
      have x2' := (hb1.cell (p := ⟨b, _, none⟩) hb).trans HX2.out
      have HB1 := Lib.hid hb1
      clear hw1 hb1 hx1 hx2 hy1
      refine wp_region_inv (R := Blw) (S := (fun w' => Below w.heap.size w w' ∧ w'.cell? ⟨w.heap.size, 0, none⟩ = some (.int .i64 r.now) ∧ w'.cell? ⟨w.heap.size, 2, none⟩ = some (.slice (some ⟨b, o, none⟩) r.l.length c) ∧ w'.cell? ⟨w.heap.size, 3, none⟩ = some (.slice fa r.fl.length fc) ∧ w'.cell? ⟨b, o + K * 4 + 2, none⟩ = some (.int .i64 kp))) 12 (Spec.val ?_ :: Spec.val ?_ :: Spec.val ?_ :: Spec.val ?_ :: Spec.val ?_ :: Spec.val ?_ :: Spec.val ?_ :: Spec.val ?_ :: Spec.val ?_ :: Spec.val ?_ :: Spec.val ?_ :: Spec.val ?_ :: []) (by kernel_rfl) (by kernel_rfl) rfl (fun w1 w2 h hb => ⟨chain h.1 hb, cell_step h.2.1 hb, cell_step h.2.2.1 hb, cell_step h.2.2.2.1 hb, cell_step h.2.2.2.2 hb⟩) (⟨HB1.out.drew, c0, c2, c3, x2'⟩) ?hm17
      case' hm17 => skip
      refine inv_val (i := 0) (by kernel_rfl) rfl rfl (fun w1 hS hd K hK => ?_) ?_
      · (try dsimp only at hS); go_simp; exact hK.out _ _ (by simp only [Act.put, List.setIfInBounds_toArray, List.set_cons_zero, List.set_cons_succ, List.nil_append, List.cons_append]; rfl) (Below.refl _ _)
      simp only [Act.put, List.setIfInBounds_toArray, List.set_cons_zero, List.set_cons_succ, List.nil_append, List.cons_append]
      refine inv_val (i := 1) (by kernel_rfl) rfl rfl (fun w1 hS hd K hK => ?_) ?_
      · (try dsimp only at hS); go_simp; exact hK.out _ _ (by simp only [Act.put, List.setIfInBounds_toArray, List.set_cons_zero, List.set_cons_succ, List.nil_append, List.cons_append]; rfl) (Below.refl _ _)
      simp only [Act.put, List.setIfInBounds_toArray, List.set_cons_zero, List.set_cons_succ, List.nil_append, List.cons_append]
      refine inv_val (i := 2) (by kernel_rfl) rfl rfl (fun w1 hS hd K hK => ?_) ?_
      · (try dsimp only at hS); go_simp; exact hK.out _ _ (by simp only [Act.put, List.setIfInBounds_toArray, List.set_cons_zero, List.set_cons_succ, List.nil_append, List.cons_append]; rfl) (Below.refl _ _)
      simp only [Act.put, List.setIfInBounds_toArray, List.set_cons_zero, List.set_cons_succ, List.nil_append, List.cons_append]
      refine inv_val (i := 3) (by kernel_rfl) rfl rfl (fun w1 hS hd K hK => ?_) ?_
      · (try dsimp only at hS); go_simp; exact hK.out _ _ (by simp only [Act.put, List.setIfInBounds_toArray, List.set_cons_zero, List.set_cons_succ, List.nil_append, List.cons_append]; rfl) (Below.refl _ _)
      simp only [Act.put, List.setIfInBounds_toArray, List.set_cons_zero, List.set_cons_succ, List.nil_append, List.cons_append]
      refine inv_val (i := 4) (by kernel_rfl) rfl rfl (fun w1 hS hd K hK => ?_) ?_
      · (try dsimp only at hS); go_simp; exact hK.out _ _ (by simp only [Act.put, List.setIfInBounds_toArray, List.set_cons_zero, List.set_cons_succ, List.nil_append, List.cons_append]; rfl) (Below.refl _ _)
      simp only [Act.put, List.setIfInBounds_toArray, List.set_cons_zero, List.set_cons_succ, List.nil_append, List.cons_append]
      refine inv_val (i := 5) (by kernel_rfl) rfl rfl (fun w1 hS hd K hK => ?_) ?_
      · (try dsimp only at hS); go_simp; exact hK.out _ _ (by simp only [Act.put, List.setIfInBounds_toArray, List.set_cons_zero, List.set_cons_succ, List.nil_append, List.cons_append]; rfl) (Below.refl _ _)
      simp only [Act.put, List.setIfInBounds_toArray, List.set_cons_zero, List.set_cons_succ, List.nil_append, List.cons_append]
      refine inv_val (i := 6) (by kernel_rfl) rfl rfl (fun w1 hS hd K hK => ?_) ?_
      · (try dsimp only at hS); go_simp; exact hK.out _ _ (by simp only [Act.put, List.setIfInBounds_toArray, List.set_cons_zero, List.set_cons_succ, List.nil_append, List.cons_append]; rfl) (Below.refl _ _)
      simp only [Act.put, List.setIfInBounds_toArray, List.set_cons_zero, List.set_cons_succ, List.nil_append, List.cons_append]
      refine inv_val (i := 7) (by kernel_rfl) rfl rfl (fun w1 hS hd K hK => ?_) ?_
      · (try dsimp only at hS); go_simp; exact hK.out _ _ (by simp only [Act.put, List.setIfInBounds_toArray, List.set_cons_zero, List.set_cons_succ, List.nil_append, List.cons_append]; rfl) (Below.refl _ _)
      simp only [Act.put, List.setIfInBounds_toArray, List.set_cons_zero, List.set_cons_succ, List.nil_append, List.cons_append]
      refine inv_val (i := 8) (by kernel_rfl) rfl rfl (fun w1 hS hd K hK => ?_) ?_
      · (try dsimp only at hS); go_simp; exact hK.out _ _ (by simp only [Act.put, List.setIfInBounds_toArray, List.set_cons_zero, List.set_cons_succ, List.nil_append, List.cons_append]; rfl) (Below.refl _ _)
      simp only [Act.put, List.setIfInBounds_toArray, List.set_cons_zero, List.set_cons_succ, List.nil_append, List.cons_append]
      refine inv_val (i := 9) (by kernel_rfl) rfl rfl (fun w1 hS hd K hK => ?_) ?_
      · (try dsimp only at hS); go_simp; exact hK.out _ _ (by simp only [Act.put, List.setIfInBounds_toArray, List.set_cons_zero, List.set_cons_succ, List.nil_append, List.cons_append]; rfl) (Below.refl _ _)
      simp only [Act.put, List.setIfInBounds_toArray, List.set_cons_zero, List.set_cons_succ, List.nil_append, List.cons_append]
      refine inv_val (i := 10) (by kernel_rfl) rfl rfl (fun w1 hS hd K hK => ?_) ?_
      · (try dsimp only at hS); go_simp; refine (rback_any _ _ _ _ HN.out HKI.out HEI.out).mono ?_; rintro e w2 ⟨rfl, rfl⟩; rw [← HGE.out]; exact hK.out _ _ (by simp only [Act.put, List.setIfInBounds_toArray, List.set_cons_zero, List.set_cons_succ, List.nil_append, List.cons_append]; rfl) (Below.refl _ _)
      simp only [Act.put, List.setIfInBounds_toArray, List.set_cons_zero, List.set_cons_succ, List.nil_append, List.cons_append]
      refine inv_val (i := 11) (by kernel_rfl) rfl rfl (fun w1 hS hd K hK => ?_) ?_
      · (try dsimp only at hS); go_simp; exact hK.out _ _ (by simp only [Act.put, List.setIfInBounds_toArray, List.set_cons_zero, List.set_cons_succ, List.nil_append, List.cons_append]; rfl) (Below.refl _ _)
      simp only [Act.put, List.setIfInBounds_toArray, List.set_cons_zero, List.set_cons_succ, List.nil_append, List.cons_append]
      refine inv_done (by kernel_rfl) (fun w2 hS hd => ?_)
      obtain ⟨hb2, _, _, c3', _⟩ := hS
      have HB2 := Lib.hid hb2
      clear hb2 hd c0 c1 c2 c3
      by_cases hf : K < r.fl.length
      · obtain ⟨b3, o3, rfl, hb3, hcl3⟩ := HFC.out (by intro h; rw [h] at hf; simp at hf)
        have z := (HB2.out.cell (p := ⟨b3, _, none⟩) hb3).trans (hcl3 K hf)
        obtain ⟨fx, hfx⟩ : ∃ x, x = r.fl.getD K 0 := ⟨_, rfl⟩
        rw [← hfx] at z HEE
        clear hcl3 hfx
        go_wp2_with fail
        go_ret
        exact ⟨ret_int (by rw [HEE.out, if_pos hf]), HB2.out⟩
      · go_wp2_with fail
        go_ret
        exact ⟨ret_int (by rw [HEE.out, if_neg hf]), HB2.out⟩
  · have H2 := Lib.hid (show r.from k = 0 by unfold RV.from; rw [if_neg h1])
    have h2 : k < 0 ∨ (r.l.length : Int) ≤ k := by
      by_cases h : k < 0
      · exact .inl h
      · refine .inr ?_
        unfold RV.is at h1
        simp at h1
        omega
    clear h1
    rcases h2 with h2 | h2
    · go_enter Try.func21, Try.ntmps21
      go_wp2
      go_ret
      exact ⟨ret_int H2.out.symm, bel_new _ _⟩
    · by_cases h3 : k < 0
      · go_enter Try.func21, Try.ntmps21
        go_wp2
        go_ret
        exact ⟨ret_int H2.out.symm, bel_new _ _⟩
      · go_enter Try.func21, Try.ntmps21
        go_wp2
        go_ret
        exact ⟨ret_int H2.out.symm, bel_new _ _⟩
end Go.Proofs.Ytaenpcglaenlaaa
