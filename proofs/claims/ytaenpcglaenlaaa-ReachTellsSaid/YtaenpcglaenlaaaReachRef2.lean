/-
  The document's Reach: Start, Takes, Cover.
-/
import Derived.Test.YtaenpcglaenlaaaReachRef
namespace Go.Proofs.Ytaenpcglaenlaaa
open Go.RowKit
set_option linter.unusedVariables false
set_option linter.unusedSimpArgs false

set_option maxRecDepth 100000 in
set_option maxHeartbeats 1000000 in
theorem qstart_any (v : Value) (r : RV) (k t : Int) (w : World) (hv : ReachAt w v r) (hn : I64 r.now) (hk : I64 k) (ht : I64 t) :
    Calls Try.prog 24 #[v, .int .i64 k, .int .i64 t] w (RetB w (.tuple #[.int .i64 (r.start k t).1, .bool (r.start k t).2])) := by
  have hv0 := hv
  obtain ⟨tv, fv, rfl, htv, hf⟩ := hv
  have htv0 := htv
  obtain ⟨a, c, rfl, hok, hlen, hc⟩ := htv
  obtain ⟨fa, fc, rfl, hfk, hflen, hfc⟩ := hf
  have HV := Lib.hid hv0
  have HC := Lib.hid hc
  have HN := Lib.hid hn
  have HK := Lib.hid hk
  have HT := Lib.hid ht
  have HTV := Lib.hid htv0
  clear hc hfc hok hfk hv0 htv0
  unfold I64 at hn hk ht
  by_cases h1 : k < 0
  · have E := Lib.hid (show r.start k t = (0, false) by unfold RV.start RV.is; rw [if_neg (by simp <;> omega)])
    go_enter Try.func24, Try.ntmps24
    go_wp2
    go_ret2
    rw [E.out]
    exact ⟨rfl, bel_new _ _⟩
  by_cases h2 : (r.l.length : Int) ≤ k
  · have E := Lib.hid (show r.start k t = (0, false) by unfold RV.start RV.is; rw [if_neg (by simp <;> omega)])
    go_enter Try.func24, Try.ntmps24
    go_wp2
    go_ret2
    rw [E.out]
    exact ⟨rfl, bel_new _ _⟩
  by_cases h3 : t < 0
  · have E := Lib.hid (show r.start k t = (0, false) by unfold RV.start RV.is; rw [if_neg (by omega)])
    go_enter Try.func24, Try.ntmps24
    go_wp2
    go_ret2
    rw [E.out]
    exact ⟨rfl, bel_new _ _⟩
  obtain ⟨K, rfl⟩ : ∃ K : Nat, k = K := ⟨k.toNat, by omega⟩
  obtain ⟨b, o, rfl, hb, hcl⟩ := HC.out (by intro h; rw [h] at h2; simp at h2 <;> omega)
  obtain ⟨_, y1, _, _⟩ := hcl K (by omega)
  have hok := tier_ok HTV.out K (by omega)
  obtain ⟨ev, hev⟩ : ∃ x, x = (r.l.getD K TierV.zero).every := ⟨_, rfl⟩
  have e1 : r.start K t = (gfloor t ev, decide (r.from K ≤ gfloor t ev)) := by unfold RV.start; rw [if_pos ⟨by unfold RV.is; simp; omega, by omega⟩, hev]; rfl
  have hev2 : I64 ev := by rw [hev]; exact hok.2.1
  rw [← hev] at y1
  obtain ⟨G, hG⟩ : ∃ G, G = gfloor t ev := ⟨_, rfl⟩
  obtain ⟨F, hF⟩ : ∃ F, F = r.from K := ⟨_, rfl⟩
  rw [← hG, ← hF] at e1
  have hGI : I64 G := by rw [hG]; exact gfloor_I64 _ _ HT.out hev2.2
  have hFI : I64 F := by rw [hF]; exact RV.from_I64 HV.out HN.out K
  have HE1 := Lib.hid e1
  have HEV := Lib.hid hev2
  have HG := Lib.hid hG
  have HF := Lib.hid hF
  unfold I64 at hGI hFI
  have y1' := ((bel_new w (.cells #[.int .i64 r.now, .string r.name, .slice (some ⟨b, o, none⟩) r.l.length c, .slice fa r.fl.length fc] 60)).cell (p := ⟨b, o + K * 4 + 1, none⟩) hb).trans y1
  clear hev hok hcl e1 hev2 hG hF
  go_enter Try.func24, Try.ntmps24
  go_wp2_with fail
  refine (rfloor_any _ _ _ HT.out HEV.out).mono ?_
  rintro e w2 ⟨rfl, rfl⟩
  rw [← HG.out]
  go_wp2_with fail
  refine (qfrom_any _ r K _ (HV.out.below (bel_new _ _)) HN.out HK.out).mono ?_
  rintro e w2 ⟨rfl, hb2⟩
  rw [← HF.out]
  have HB2 := Lib.hid (chain (bel_new _ _) hb2)
  clear hb2
  go_wp2
  go_ret2
  rw [HE1.out]
  exact ⟨rfl, HB2.out⟩

set_option maxRecDepth 100000 in
set_option maxHeartbeats 1000000 in
theorem qcover_any (v : Value) (r : RV) (t : Int) (w : World) (hv : ReachAt w v r) (hn : I64 r.now) (ht : I64 t) (hl : r.l.length ≤ 1000000) :
    Calls Try.prog 28 #[v, .int .i64 t] w (RetB w (.int .i64 (r.cover t))) := by
  have hv0 := hv
  obtain ⟨tv, fv, rfl, htv, hf⟩ := hv
  obtain ⟨a, c, rfl, hok, hlen, hc⟩ := htv
  obtain ⟨fa, fc, rfl, hfk, hflen, hfc⟩ := hf
  have HV := Lib.hid hv0
  have HN := Lib.hid hn
  clear hc hfc hok hfk hv0
  unfold I64 at hn ht
  obtain ⟨n, hnl⟩ : ∃ n, r.l.length = n := ⟨_, rfl⟩
  have HNL := Lib.hid hnl
  rw [hnl] at hl hlen ⊢
  clear hnl
  go_enter Try.func28, Try.ntmps28
  go_wp2
  go_loopw [5] (fun i wr => ∃ (k : Nat), k ≤ n ∧ i = .int .i64 k ∧ Hid (r.cover t = coverFrom r t (n - k) k) ∧ Hid (wr.heap[w.heap.size]? = some (.cells #[.int .i64 r.now, .string r.name, .slice a n c, .slice fa r.fl.length fc] 60)) ∧ Hid (Below w.heap.size w wr)) (fun i _ => n - (intOf i).toNat)
  case atStart => exact ⟨0, Nat.zero_le _, rfl, Lib.hid (by unfold RV.cover; rw [HNL.out]; rfl), Lib.hid (heap_new_at rfl), Lib.hid (bel_new _ _)⟩
  case round =>
    obtain ⟨k, hk, rfl, HR, HX, HB⟩ := hrel
    obtain ⟨c0, c1, c2, c3⟩ := row4 HX.out
    by_cases hlt : k < n
    · have hrv := HV.out.below HB.out
      rw [HNL.out] at hrv
      have HRV := Lib.hid hrv
      have hfi := RV.from_I64 HV.out HN.out k
      obtain ⟨F, hF⟩ : ∃ F, F = r.from k := ⟨_, rfl⟩
      rw [← hF] at hfi
      have HF := Lib.hid hF
      have HFN := Lib.hid (r.from_nat k (by rw [HNL.out]; exact hlt))
      have HR2 := Lib.hid (show coverFrom r t (n - k) k = if r.fromN k ≤ t then (k : Int) else coverFrom r t (n - (k + 1)) (k + 1) by rw [show n - k = (n - (k + 1)) + 1 by omega]; rfl)
      unfold I64 at hfi
      clear hF hrv
      go_wp2_with fail
      refine (qfrom_any _ r k _ HRV.out HN.out (by unfold I64; omega)).mono ?_
      rintro e w1 ⟨rfl, hb1⟩
      rw [← HF.out]
      have HB1 := Lib.hid (chain HB.out hb1)
      have HX1 := Lib.hid (heap_step HX.out hb1)
      clear hb1 c0 c1 c2 c3
      by_cases hft : F ≤ t
      · go_wp2
        go_ret
        exact ⟨ret_int (by rw [HR.out, HR2.out, ← HFN.out, ← HF.out, if_pos hft]), HB1.out⟩
      · go_wp2
        go_roundw
        case rel => exact ⟨k + 1, by omega, by go_num, Lib.hid (by rw [HR.out, HR2.out, ← HFN.out, ← HF.out, if_neg (show ¬ F ≤ t by omega)]), HX1, HB1⟩
        case measure => simp [intOf]; omega
    · have hkn : k = n := by omega
      subst hkn
      have HR2 := Lib.hid (show coverFrom r t (k - k) k = (k : Int) - 1 by rw [Nat.sub_self]; show (r.l.length : Int) - 1 = _; rw [HNL.out])
      go_wp2
      go_ret
      exact ⟨ret_int (by rw [HR.out, HR2.out]), HB.out⟩

set_option maxRecDepth 100000 in
set_option maxHeartbeats 1000000 in
theorem qtakes_any (v : Value) (r : RV) (name : ByteArray) (t x : Int) (w : World) (hv : ReachAt w v r) (hn : I64 r.now) (hs : name.size ≤ 9223372036854775807) (ht : I64 t) :
    Calls Try.prog 27 #[v, .agg #[.string name, .int .i64 t, .int .i64 x]] w (RetB w (.int .i64 (r.takes name t))) := by
  have hv0 := hv
  have HFI := Lib.hid (RV.from_I64 hv hn 0)
  obtain ⟨tv, fv, rfl, htv, hf⟩ := hv
  obtain ⟨a, c, rfl, hok, hlen, hc⟩ := htv
  obtain ⟨fa, fc, rfl, hfk, hflen, hfc⟩ := hf
  have HV := Lib.hid hv0
  have HN := Lib.hid hn
  have HS := Lib.hid hs
  clear hc hfc hok hfk hv0 hflen hs
  unfold I64 at hn ht
  obtain ⟨q, hq⟩ : ∃ q, q = nameOk name := ⟨_, rfl⟩
  have HQ := Lib.hid hq
  clear hq
  go_enter Try.func27, Try.ntmps27
  go_wp2_with fail
  refine (rname_any name _ HS.out).mono ?_
  rintro e w1 ⟨rfl, hb1⟩
  rw [← HQ.out]
  obtain ⟨h1, h2, hbw⟩ := two_new hb1
  obtain ⟨c0, c1, c2, c3⟩ := row4 h1
  obtain ⟨d0, d1, d2⟩ := row3 h2
  have HB1 := Lib.hid hbw
  clear hb1 hbw h1 h2
  cases q
  · go_wp2
    go_ret
    exact ⟨ret_int (by unfold RV.takes; rw [if_pos (.inl HQ.out.symm)]), HB1.out⟩
  · by_cases g1 : t < 0
    · go_wp2
      go_ret
      exact ⟨ret_int (by unfold RV.takes; rw [if_pos (.inr g1)]), HB1.out⟩
    · by_cases g2 : r.now < t
      · go_wp2
        go_ret
        exact ⟨ret_int (by unfold RV.takes; rw [if_neg (by rw [← HQ.out]; simp; omega), if_pos g2]), HB1.out⟩
      · have hfi := HFI.out
        obtain ⟨F, hF⟩ : ∃ F, F = r.from 0 := ⟨_, rfl⟩
        rw [← hF] at hfi
        have HF := Lib.hid hF
        unfold I64 at hfi
        have HZ := Lib.hid (show I64 0 by unfold I64; omega)
        clear hF
        by_cases g0 : r.l.length = 0
        · have hz0 : ((r.l.length : Int) == 0) = true := by rw [g0]; rfl
          have HI := Lib.hid (show r.is 0 = false by unfold RV.is; exact decide_eq_false (by omega))
          clear g0
          go_wp2_with fail
          refine wp_region_inv (R := Blw) (S := (fun w' => Below w.heap.size w w' ∧ w'.cell? ⟨w.heap.size, 0, none⟩ = some (.int .i64 r.now) ∧ w'.cell? ⟨w.heap.size, 1, none⟩ = some (.string r.name) ∧ w'.cell? ⟨w.heap.size, 2, none⟩ = some (.slice a r.l.length c) ∧ w'.cell? ⟨w.heap.size, 3, none⟩ = some (.slice fa r.fl.length fc) ∧ w'.cell? ⟨w.heap.size + 1, 1, none⟩ = some (.int .i64 t))) 12 (Spec.val ?_ :: Spec.val ?_ :: Spec.val ?_ :: Spec.val ?_ :: Spec.val ?_ :: Spec.val ?_ :: Spec.val ?_ :: Spec.val ?_ :: Spec.val ?_ :: Spec.val ?_ :: Spec.val ?_ :: Spec.val ?_ :: []) (by kernel_rfl) (by kernel_rfl) rfl (fun w1 w2 h hb => ⟨chain h.1 hb, cell_step h.2.1 hb, cell_step h.2.2.1 hb, cell_step h.2.2.2.1 hb, cell_step h.2.2.2.2.1 hb, cell_step h.2.2.2.2.2 hb⟩) (⟨HB1.out.drew, c0, c1, c2, c3, d1⟩) ?hm18
          case' hm18 => skip
          refine inv_val (i := 0) (by kernel_rfl) rfl rfl (fun w1 hS hd K hK => ?_) ?_
          · (try dsimp only at hS); go_simp; exact hK.out _ _ (by simp only [Act.put, List.setIfInBounds_toArray, List.set_cons_zero, List.set_cons_succ, List.nil_append, List.cons_append]; rfl) (Below.refl _ _)
          simp only [Act.put, List.setIfInBounds_toArray, List.set_cons_zero, List.set_cons_succ, List.nil_append, List.cons_append]
          refine inv_val (i := 1) (by kernel_rfl) rfl rfl (fun w1 hS hd K hK => ?_) ?_
          · (try dsimp only at hS); go_simp; exact hK.out _ _ (by simp only [Act.put, List.setIfInBounds_toArray, List.set_cons_zero, List.set_cons_succ, List.nil_append, List.cons_append]; rfl) (Below.refl _ _)
          simp only [Act.put, List.setIfInBounds_toArray, List.set_cons_zero, List.set_cons_succ, List.nil_append, List.cons_append]
          refine inv_val (i := 2) (by kernel_rfl) rfl rfl (fun w1 hS hd K hK => ?_) ?_
          · (try dsimp only at hS); go_simp; exact hK.out _ _ (by simp only [Act.put, List.setIfInBounds_toArray, List.set_cons_zero, List.set_cons_succ, List.nil_append, List.cons_append]; rfl) (Below.refl _ _)
          simp only [Act.put, List.setIfInBounds_toArray, List.set_cons_zero, List.set_cons_succ, List.nil_append, List.cons_append]
          refine inv_val (i := 3) (by kernel_rfl) rfl rfl (fun w1 hS hd K hK => ?_) ?_
          · (try dsimp only at hS); go_simp; exact hK.out _ _ (by simp only [Act.put, List.setIfInBounds_toArray, List.set_cons_zero, List.set_cons_succ, List.nil_append, List.cons_append]; rfl) (Below.refl _ _)
          simp only [Act.put, List.setIfInBounds_toArray, List.set_cons_zero, List.set_cons_succ, List.nil_append, List.cons_append]
          refine inv_val (i := 4) (by kernel_rfl) rfl rfl (fun w1 hS hd K hK => ?_) ?_
          · (try dsimp only at hS); go_simp; exact hK.out _ _ (by simp only [Act.put, List.setIfInBounds_toArray, List.set_cons_zero, List.set_cons_succ, List.nil_append, List.cons_append]; rfl) (Below.refl _ _)
          simp only [Act.put, List.setIfInBounds_toArray, List.set_cons_zero, List.set_cons_succ, List.nil_append, List.cons_append]
          refine inv_val (i := 5) (by kernel_rfl) rfl rfl (fun w1 hS hd K hK => ?_) ?_
          · (try dsimp only at hS); go_simp; exact hK.out _ _ (by simp only [Act.put, List.setIfInBounds_toArray, List.set_cons_zero, List.set_cons_succ, List.nil_append, List.cons_append]; rfl) (Below.refl _ _)
          simp only [Act.put, List.setIfInBounds_toArray, List.set_cons_zero, List.set_cons_succ, List.nil_append, List.cons_append]
          refine inv_val (i := 6) (by kernel_rfl) rfl rfl (fun w1 hS hd K hK => ?_) ?_
          · rw [if_neg (by simp [Region.wanted, yielded])]; exact hK.out _ _ (by rfl) (Below.refl _ _)
          simp only [Act.put, List.setIfInBounds_toArray, List.set_cons_zero, List.set_cons_succ, List.nil_append, List.cons_append]
          refine inv_val (i := 7) (by kernel_rfl) rfl rfl (fun w1 hS hd K hK => ?_) ?_
          · rw [if_neg (by simp [Region.wanted, yielded])]; exact hK.out _ _ (by rfl) (Below.refl _ _)
          simp only [Act.put, List.setIfInBounds_toArray, List.set_cons_zero, List.set_cons_succ, List.nil_append, List.cons_append]
          refine inv_val (i := 8) (by kernel_rfl) rfl rfl (fun w1 hS hd K hK => ?_) ?_
          · rw [if_neg (by simp [Region.wanted, yielded])]; exact hK.out _ _ (by rfl) (Below.refl _ _)
          simp only [Act.put, List.setIfInBounds_toArray, List.set_cons_zero, List.set_cons_succ, List.nil_append, List.cons_append]
          refine inv_val (i := 9) (by kernel_rfl) rfl rfl (fun w1 hS hd K hK => ?_) ?_
          · rw [if_neg (by simp [Region.wanted, yielded])]; exact hK.out _ _ (by rfl) (Below.refl _ _)
          simp only [Act.put, List.setIfInBounds_toArray, List.set_cons_zero, List.set_cons_succ, List.nil_append, List.cons_append]
          refine inv_val (i := 10) (by kernel_rfl) rfl rfl (fun w1 hS hd K hK => ?_) ?_
          · rw [if_neg (by simp [Region.wanted, yielded])]; exact hK.out _ _ (by rfl) (Below.refl _ _)
          simp only [Act.put, List.setIfInBounds_toArray, List.set_cons_zero, List.set_cons_succ, List.nil_append, List.cons_append]
          refine inv_val (i := 11) (by kernel_rfl) rfl rfl (fun w1 hS hd K hK => ?_) ?_
          · (try dsimp only at hS); go_simp; exact hK.out _ _ (by simp only [Act.put, List.setIfInBounds_toArray, List.set_cons_zero, List.set_cons_succ, List.nil_append, List.cons_append]; rfl) (Below.refl _ _)
          simp only [Act.put, List.setIfInBounds_toArray, List.set_cons_zero, List.set_cons_succ, List.nil_append, List.cons_append]
          refine inv_done (by kernel_rfl) (fun w3 hS hd => ?_)
          have HB3 := Lib.hid hS.1
          clear hS hd c0 c1 c2 c3 d0 d1 d2
          go_wp2
          go_ret
          exact ⟨ret_int (by unfold RV.takes; rw [if_neg (by rw [← HQ.out]; simp; omega), if_neg (by omega), if_pos (.inl HI.out)]), HB3.out⟩
        · have hz0 : ((r.l.length : Int) == 0) = false := beq_eq_false_iff_ne.2 (show (r.l.length : Int) ≠ 0 by omega)
          have HI := Lib.hid (show r.is 0 = true by unfold RV.is; exact decide_eq_true (by omega))
          clear g0
          by_cases g3 : t < F
          · go_wp2_with fail
            refine wp_region_inv (R := Blw) (S := (fun w' => Below w.heap.size w w' ∧ w'.cell? ⟨w.heap.size, 0, none⟩ = some (.int .i64 r.now) ∧ w'.cell? ⟨w.heap.size, 1, none⟩ = some (.string r.name) ∧ w'.cell? ⟨w.heap.size, 2, none⟩ = some (.slice a r.l.length c) ∧ w'.cell? ⟨w.heap.size, 3, none⟩ = some (.slice fa r.fl.length fc) ∧ w'.cell? ⟨w.heap.size + 1, 1, none⟩ = some (.int .i64 t))) 12 (Spec.val ?_ :: Spec.val ?_ :: Spec.val ?_ :: Spec.val ?_ :: Spec.val ?_ :: Spec.val ?_ :: Spec.val ?_ :: Spec.val ?_ :: Spec.val ?_ :: Spec.val ?_ :: Spec.val ?_ :: Spec.val ?_ :: []) (by kernel_rfl) (by kernel_rfl) rfl (fun w1 w2 h hb => ⟨chain h.1 hb, cell_step h.2.1 hb, cell_step h.2.2.1 hb, cell_step h.2.2.2.1 hb, cell_step h.2.2.2.2.1 hb, cell_step h.2.2.2.2.2 hb⟩) (⟨HB1.out.drew, c0, c1, c2, c3, d1⟩) ?hm19
            case' hm19 => skip
            refine inv_val (i := 0) (by kernel_rfl) rfl rfl (fun w1 hS hd K hK => ?_) ?_
            · (try dsimp only at hS); go_simp; exact hK.out _ _ (by simp only [Act.put, List.setIfInBounds_toArray, List.set_cons_zero, List.set_cons_succ, List.nil_append, List.cons_append]; rfl) (Below.refl _ _)
            simp only [Act.put, List.setIfInBounds_toArray, List.set_cons_zero, List.set_cons_succ, List.nil_append, List.cons_append]
            refine inv_val (i := 1) (by kernel_rfl) rfl rfl (fun w1 hS hd K hK => ?_) ?_
            · (try dsimp only at hS); go_simp; exact hK.out _ _ (by simp only [Act.put, List.setIfInBounds_toArray, List.set_cons_zero, List.set_cons_succ, List.nil_append, List.cons_append]; rfl) (Below.refl _ _)
            simp only [Act.put, List.setIfInBounds_toArray, List.set_cons_zero, List.set_cons_succ, List.nil_append, List.cons_append]
            refine inv_val (i := 2) (by kernel_rfl) rfl rfl (fun w1 hS hd K hK => ?_) ?_
            · (try dsimp only at hS); go_simp; exact hK.out _ _ (by simp only [Act.put, List.setIfInBounds_toArray, List.set_cons_zero, List.set_cons_succ, List.nil_append, List.cons_append]; rfl) (Below.refl _ _)
            simp only [Act.put, List.setIfInBounds_toArray, List.set_cons_zero, List.set_cons_succ, List.nil_append, List.cons_append]
            refine inv_val (i := 3) (by kernel_rfl) rfl rfl (fun w1 hS hd K hK => ?_) ?_
            · (try dsimp only at hS); go_simp; exact hK.out _ _ (by simp only [Act.put, List.setIfInBounds_toArray, List.set_cons_zero, List.set_cons_succ, List.nil_append, List.cons_append]; rfl) (Below.refl _ _)
            simp only [Act.put, List.setIfInBounds_toArray, List.set_cons_zero, List.set_cons_succ, List.nil_append, List.cons_append]
            refine inv_val (i := 4) (by kernel_rfl) rfl rfl (fun w1 hS hd K hK => ?_) ?_
            · (try dsimp only at hS); go_simp; exact hK.out _ _ (by simp only [Act.put, List.setIfInBounds_toArray, List.set_cons_zero, List.set_cons_succ, List.nil_append, List.cons_append]; rfl) (Below.refl _ _)
            simp only [Act.put, List.setIfInBounds_toArray, List.set_cons_zero, List.set_cons_succ, List.nil_append, List.cons_append]
            refine inv_val (i := 5) (by kernel_rfl) rfl rfl (fun w1 hS hd K hK => ?_) ?_
            · (try dsimp only at hS); go_simp; exact hK.out _ _ (by simp only [Act.put, List.setIfInBounds_toArray, List.set_cons_zero, List.set_cons_succ, List.nil_append, List.cons_append]; rfl) (Below.refl _ _)
            simp only [Act.put, List.setIfInBounds_toArray, List.set_cons_zero, List.set_cons_succ, List.nil_append, List.cons_append]
            refine inv_val (i := 6) (by kernel_rfl) rfl rfl (fun w1 hS hd K hK => ?_) ?_
            · (try dsimp only at hS); go_simp; exact hK.out _ _ (by simp only [Act.put, List.setIfInBounds_toArray, List.set_cons_zero, List.set_cons_succ, List.nil_append, List.cons_append]; rfl) (Below.refl _ _)
            simp only [Act.put, List.setIfInBounds_toArray, List.set_cons_zero, List.set_cons_succ, List.nil_append, List.cons_append]
            refine inv_val (i := 7) (by kernel_rfl) rfl rfl (fun w1 hS hd K hK => ?_) ?_
            · (try dsimp only at hS); go_simp; exact hK.out _ _ (by simp only [Act.put, List.setIfInBounds_toArray, List.set_cons_zero, List.set_cons_succ, List.nil_append, List.cons_append]; rfl) (Below.refl _ _)
            simp only [Act.put, List.setIfInBounds_toArray, List.set_cons_zero, List.set_cons_succ, List.nil_append, List.cons_append]
            refine inv_val (i := 8) (by kernel_rfl) rfl rfl (fun w1 hS hd K hK => ?_) ?_
            · (try dsimp only at hS); go_simp; exact hK.out _ _ (by simp only [Act.put, List.setIfInBounds_toArray, List.set_cons_zero, List.set_cons_succ, List.nil_append, List.cons_append]; rfl) (Below.refl _ _)
            simp only [Act.put, List.setIfInBounds_toArray, List.set_cons_zero, List.set_cons_succ, List.nil_append, List.cons_append]
            refine inv_val (i := 9) (by kernel_rfl) rfl rfl (fun w1 hS hd K hK => ?_) ?_
            · (try dsimp only at hS); go_simp; refine (qfrom_any _ r 0 _ (HV.out.below hS.1) HN.out HZ.out).mono ?_; rintro e w2 ⟨rfl, hb⟩; rw [← HF.out]; exact hK.out _ _ (by simp only [Act.put, List.setIfInBounds_toArray, List.set_cons_zero, List.set_cons_succ, List.nil_append, List.cons_append]; rfl) hb
            simp only [Act.put, List.setIfInBounds_toArray, List.set_cons_zero, List.set_cons_succ, List.nil_append, List.cons_append]
            refine inv_val (i := 10) (by kernel_rfl) rfl rfl (fun w1 hS hd K hK => ?_) ?_
            · (try dsimp only at hS); go_simp; exact hK.out _ _ (by simp only [Act.put, List.setIfInBounds_toArray, List.set_cons_zero, List.set_cons_succ, List.nil_append, List.cons_append]; rfl) (Below.refl _ _)
            simp only [Act.put, List.setIfInBounds_toArray, List.set_cons_zero, List.set_cons_succ, List.nil_append, List.cons_append]
            refine inv_val (i := 11) (by kernel_rfl) rfl rfl (fun w1 hS hd K hK => ?_) ?_
            · (try dsimp only at hS); go_simp; exact hK.out _ _ (by simp only [Act.put, List.setIfInBounds_toArray, List.set_cons_zero, List.set_cons_succ, List.nil_append, List.cons_append]; rfl) (Below.refl _ _)
            simp only [Act.put, List.setIfInBounds_toArray, List.set_cons_zero, List.set_cons_succ, List.nil_append, List.cons_append]
            refine inv_done (by kernel_rfl) (fun w3 hS hd => ?_)
            have HB3 := Lib.hid hS.1
            clear hS hd c0 c1 c2 c3 d0 d1 d2
            go_wp2
            go_ret
            exact ⟨ret_int (by unfold RV.takes; rw [if_neg (by rw [← HQ.out]; simp; omega), if_neg (by omega), if_pos (.inr (by rw [← HF.out]; exact g3))]), HB3.out⟩
          · go_wp2_with fail
            refine wp_region_inv (R := Blw) (S := (fun w' => Below w.heap.size w w' ∧ w'.cell? ⟨w.heap.size, 0, none⟩ = some (.int .i64 r.now) ∧ w'.cell? ⟨w.heap.size, 1, none⟩ = some (.string r.name) ∧ w'.cell? ⟨w.heap.size, 2, none⟩ = some (.slice a r.l.length c) ∧ w'.cell? ⟨w.heap.size, 3, none⟩ = some (.slice fa r.fl.length fc) ∧ w'.cell? ⟨w.heap.size + 1, 1, none⟩ = some (.int .i64 t))) 12 (Spec.val ?_ :: Spec.val ?_ :: Spec.val ?_ :: Spec.val ?_ :: Spec.val ?_ :: Spec.val ?_ :: Spec.val ?_ :: Spec.val ?_ :: Spec.val ?_ :: Spec.val ?_ :: Spec.val ?_ :: Spec.val ?_ :: []) (by kernel_rfl) (by kernel_rfl) rfl (fun w1 w2 h hb => ⟨chain h.1 hb, cell_step h.2.1 hb, cell_step h.2.2.1 hb, cell_step h.2.2.2.1 hb, cell_step h.2.2.2.2.1 hb, cell_step h.2.2.2.2.2 hb⟩) (⟨HB1.out.drew, c0, c1, c2, c3, d1⟩) ?hm20
            case' hm20 => skip
            refine inv_val (i := 0) (by kernel_rfl) rfl rfl (fun w1 hS hd K hK => ?_) ?_
            · (try dsimp only at hS); go_simp; exact hK.out _ _ (by simp only [Act.put, List.setIfInBounds_toArray, List.set_cons_zero, List.set_cons_succ, List.nil_append, List.cons_append]; rfl) (Below.refl _ _)
            simp only [Act.put, List.setIfInBounds_toArray, List.set_cons_zero, List.set_cons_succ, List.nil_append, List.cons_append]
            refine inv_val (i := 1) (by kernel_rfl) rfl rfl (fun w1 hS hd K hK => ?_) ?_
            · (try dsimp only at hS); go_simp; exact hK.out _ _ (by simp only [Act.put, List.setIfInBounds_toArray, List.set_cons_zero, List.set_cons_succ, List.nil_append, List.cons_append]; rfl) (Below.refl _ _)
            simp only [Act.put, List.setIfInBounds_toArray, List.set_cons_zero, List.set_cons_succ, List.nil_append, List.cons_append]
            refine inv_val (i := 2) (by kernel_rfl) rfl rfl (fun w1 hS hd K hK => ?_) ?_
            · (try dsimp only at hS); go_simp; exact hK.out _ _ (by simp only [Act.put, List.setIfInBounds_toArray, List.set_cons_zero, List.set_cons_succ, List.nil_append, List.cons_append]; rfl) (Below.refl _ _)
            simp only [Act.put, List.setIfInBounds_toArray, List.set_cons_zero, List.set_cons_succ, List.nil_append, List.cons_append]
            refine inv_val (i := 3) (by kernel_rfl) rfl rfl (fun w1 hS hd K hK => ?_) ?_
            · (try dsimp only at hS); go_simp; exact hK.out _ _ (by simp only [Act.put, List.setIfInBounds_toArray, List.set_cons_zero, List.set_cons_succ, List.nil_append, List.cons_append]; rfl) (Below.refl _ _)
            simp only [Act.put, List.setIfInBounds_toArray, List.set_cons_zero, List.set_cons_succ, List.nil_append, List.cons_append]
            refine inv_val (i := 4) (by kernel_rfl) rfl rfl (fun w1 hS hd K hK => ?_) ?_
            · (try dsimp only at hS); go_simp; exact hK.out _ _ (by simp only [Act.put, List.setIfInBounds_toArray, List.set_cons_zero, List.set_cons_succ, List.nil_append, List.cons_append]; rfl) (Below.refl _ _)
            simp only [Act.put, List.setIfInBounds_toArray, List.set_cons_zero, List.set_cons_succ, List.nil_append, List.cons_append]
            refine inv_val (i := 5) (by kernel_rfl) rfl rfl (fun w1 hS hd K hK => ?_) ?_
            · (try dsimp only at hS); go_simp; exact hK.out _ _ (by simp only [Act.put, List.setIfInBounds_toArray, List.set_cons_zero, List.set_cons_succ, List.nil_append, List.cons_append]; rfl) (Below.refl _ _)
            simp only [Act.put, List.setIfInBounds_toArray, List.set_cons_zero, List.set_cons_succ, List.nil_append, List.cons_append]
            refine inv_val (i := 6) (by kernel_rfl) rfl rfl (fun w1 hS hd K hK => ?_) ?_
            · (try dsimp only at hS); go_simp; exact hK.out _ _ (by simp only [Act.put, List.setIfInBounds_toArray, List.set_cons_zero, List.set_cons_succ, List.nil_append, List.cons_append]; rfl) (Below.refl _ _)
            simp only [Act.put, List.setIfInBounds_toArray, List.set_cons_zero, List.set_cons_succ, List.nil_append, List.cons_append]
            refine inv_val (i := 7) (by kernel_rfl) rfl rfl (fun w1 hS hd K hK => ?_) ?_
            · (try dsimp only at hS); go_simp; exact hK.out _ _ (by simp only [Act.put, List.setIfInBounds_toArray, List.set_cons_zero, List.set_cons_succ, List.nil_append, List.cons_append]; rfl) (Below.refl _ _)
            simp only [Act.put, List.setIfInBounds_toArray, List.set_cons_zero, List.set_cons_succ, List.nil_append, List.cons_append]
            refine inv_val (i := 8) (by kernel_rfl) rfl rfl (fun w1 hS hd K hK => ?_) ?_
            · (try dsimp only at hS); go_simp; exact hK.out _ _ (by simp only [Act.put, List.setIfInBounds_toArray, List.set_cons_zero, List.set_cons_succ, List.nil_append, List.cons_append]; rfl) (Below.refl _ _)
            simp only [Act.put, List.setIfInBounds_toArray, List.set_cons_zero, List.set_cons_succ, List.nil_append, List.cons_append]
            refine inv_val (i := 9) (by kernel_rfl) rfl rfl (fun w1 hS hd K hK => ?_) ?_
            · (try dsimp only at hS); go_simp; refine (qfrom_any _ r 0 _ (HV.out.below hS.1) HN.out HZ.out).mono ?_; rintro e w2 ⟨rfl, hb⟩; rw [← HF.out]; exact hK.out _ _ (by simp only [Act.put, List.setIfInBounds_toArray, List.set_cons_zero, List.set_cons_succ, List.nil_append, List.cons_append]; rfl) hb
            simp only [Act.put, List.setIfInBounds_toArray, List.set_cons_zero, List.set_cons_succ, List.nil_append, List.cons_append]
            refine inv_val (i := 10) (by kernel_rfl) rfl rfl (fun w1 hS hd K hK => ?_) ?_
            · (try dsimp only at hS); go_simp; exact hK.out _ _ (by simp only [Act.put, List.setIfInBounds_toArray, List.set_cons_zero, List.set_cons_succ, List.nil_append, List.cons_append]; rfl) (Below.refl _ _)
            simp only [Act.put, List.setIfInBounds_toArray, List.set_cons_zero, List.set_cons_succ, List.nil_append, List.cons_append]
            refine inv_val (i := 11) (by kernel_rfl) rfl rfl (fun w1 hS hd K hK => ?_) ?_
            · (try dsimp only at hS); go_simp; exact hK.out _ _ (by simp only [Act.put, List.setIfInBounds_toArray, List.set_cons_zero, List.set_cons_succ, List.nil_append, List.cons_append]; rfl) (Below.refl _ _)
            simp only [Act.put, List.setIfInBounds_toArray, List.set_cons_zero, List.set_cons_succ, List.nil_append, List.cons_append]
            refine inv_done (by kernel_rfl) (fun w3 hS hd => ?_)
            have HB3 := Lib.hid hS.1
            clear hS hd c0 c1 c2 c3 d0 d1 d2
            go_wp2
            go_ret
            exact ⟨ret_int (by unfold RV.takes; rw [if_neg (by rw [← HQ.out]; simp; omega), if_neg (by omega), if_neg (by rw [HI.out, ← HF.out]; simp; omega)]), HB3.out⟩
end Go.Proofs.Ytaenpcglaenlaaa
