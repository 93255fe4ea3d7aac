/-
  The walk of the law DiskLasts.
-/
import Derived.Test.YtppfgjjebfgcaaaDiskLaws3
import Derived.Test.YtppfgjjebfgcaaaInv
namespace Go.Proofs.Ytppfgjjebfgcaaa
open Go.RowKit
set_option linter.unusedVariables false
set_option linter.unusedSimpArgs false

set_option maxRecDepth 100000 in
set_option maxHeartbeats 8000000 in
theorem walkDiskLastsIn (va vb vk : Value) (a b keep : List Int) (w : World) (ha : IntsAt w va a) (hb : IntsAt w vb b) (hk : IntsAt w vk keep) (l1 : a.length ≤ 10) (l2 : b.length ≤ 20) (l3 : keep.length ≤ 30) :
    Calls Try.prog 4 #[va, vb, vk] w (BoolPost w true) := by
  have VA := Lib.hid ha
  have VB := Lib.hid hb
  have VK := Lib.hid hk
  have LTA := Lib.hid (ints_lt ha)
  have LTB := Lib.hid (ints_lt hb)
  have LTK := Lib.hid (ints_lt hk)
  obtain ⟨aa, ca, rfl, _, hla, hxa⟩ := ha
  obtain ⟨ab, cb, rfl, _, hlb, hxb⟩ := hb
  obtain ⟨ak, ck, rfl, _, hlk, hxk⟩ := hk
  clear hxa hxb hxk
  have l1' : (a.length : Int) ≤ 10 := by omega
  have l2' : (b.length : Int) ≤ 20 := by omega
  have l3' : (keep.length : Int) ≤ 30 := by omega
  have HZ := Lib.hid zero_fill
  have M8 := @make8
  have FA := Lib.hid (DA_facts (DV.fresh 8) 1 a rfl rfl rfl rfl)
  go_enter Try.func4, Try.ntmps4
  go_wp2_with fail
  refine (new_any 8 w (by omega)).mono ?_
  rintro e w1 ⟨p, rfl, hd, hb⟩
  have HD0 := Lib.hid hd
  have HB0 := Lib.hid hb
  clear hd hb
  go_wp2_with fail
  clear M8
  obtain ⟨g, hg⟩ : ∃ g, g = w1.heap.size := ⟨_, rfl⟩
  have HD1 := Lib.hid (WD.new HD0.out rfl fun _ => ByteArray.empty)
  have HB1 := Lib.hid (chain HB0.out (bel_new w1 (.cells (rowS fun _ => ByteArray.empty) 9)))
  obtain ⟨w2, hw2⟩ : ∃ w2, w2 = w1.alloc (.cells (rowS fun _ => ByteArray.empty) 9) := ⟨_, rfl⟩
  rw [← hw2, ← hg] at HD1
  rw [← hw2] at HB1 ⊢
  rw [← hg]
  clear hw2 hg HD0 HB0
  go_loopw [35] (fun x wr => ∃ k : Nat, k ≤ 8 ∧ x = .int .i64 k ∧ Hid (WD wr w.heap.size p 0 (DV.fresh 8) g (zerosS k)) ∧ Hid (Below w.heap.size w wr)) (fun x _ => 8 - (intOf x).toNat)
  case atStart => exact ⟨0, by omega, rfl, HD1, HB1⟩
  case round =>
    clear HD1 HB1
    obtain ⟨k, hk, rfl, HD1, HB1⟩ := hrel
    by_cases hlt : k < 8
    · go_wp2_with fail
      refine (fill_at 0 (by omega) (by omega)).mono ?_; rintro e w2 ⟨rfl, hb⟩; have HD2 := Lib.hid (HD1.out.step_ hb); have HB2 := Lib.hid (chain HB1.out hb); clear hb
      rw [HZ.out]
      have hcell := HD2.out.cell hlt
      have hf := frozen_row (o := k) HD2.out.row
      go_wp2
      go_roundw
      case rel => exact ⟨k + 1, by omega, by go_num, Lib.hid ((HD2.out.set k zeroB hlt).congr (fun i _ => zeros_next k i)), Lib.hid (bel_set HB2.out HD2.out.ge)⟩
      case measure => simp [intOf]; omega
    · have hk8 : k = 8 := by omega
      have hk9 : (k : Int) = 8 := by omega
      rw [hk8] at HD1
      rw [hk9]
      have HD2 := Lib.hid (HD1.out.congr (f' := wantA a 0) (fun i hi => if_pos hi))
      clear HD1 hlt hk hk8 hk9 k
      go_wp2_with fail
      go_loopw [10] (fun x wr => ∃ k : Nat, k ≤ a.length ∧ x = .int .i64 k ∧ Hid (WD wr w.heap.size p k (DA (DV.fresh 8) 1 a k) g (wantA a k)) ∧ Hid (Below w.heap.size w wr)) (fun x _ => a.length - (intOf x).toNat)
      case atStart => exact ⟨0, by omega, rfl, HD2, HB1⟩
      case round =>
        clear HD2 HB1
        obtain ⟨k, hk, rfl, HD1, HB1⟩ := hrel
        by_cases hlt : k < a.length
        · obtain ⟨gb, o, rfl, hcell, hI⟩ := ints_bit VA.out hlt
          obtain ⟨x, hx⟩ : ∃ x, x = a.getD k 0 := ⟨_, rfl⟩
          rw [← hx] at hcell hI
          have HC := Lib.hid hcell
          obtain ⟨q, hq⟩ : ∃ q : Nat, (q : Int) = x % 8 := ⟨(x % 8).toNat, by omega⟩
          have hq8 : q < 8 := by omega
          have hq9 : (q : Int) < 8 := by omega
          have hand := and7 x
          rw [← hq] at hand
          have HQ := Lib.hid (show (q : Int) = a.getD k 0 % 8 by rw [hq, hx])
          clear hx hI hq hcell
          have fa := FA.out k hk
          have WB := Lib.hid (show 0 ≤ (DA (DV.fresh 8) 1 a k).writes ∧ (DA (DV.fresh 8) 1 a k).writes ≤ 1000000000000 by rw [fa.2.2.1]; show 0 ≤ (0 : Int) + k ∧ (0 : Int) + k ≤ 1000000000000; omega)
          have NK := Lib.hid (FA.out (k + 1) hlt).2.2.2.2.1
          have WR := Lib.hid (DA_write (d := DV.fresh 8) (base := 1) rfl rfl rfl rfl rfl hlt HQ.out)
          clear fa
          have hk9 : k < 100 := by omega
          have hkc : 1 + k < 256 := by omega
          go_wp2_with fail
          refine wp_region_inv (R := Blw) (S := (fun w' => (WD w' w.heap.size p k (DA (DV.fresh 8) 1 a k) g (wantA a k) ∧ Below w.heap.size w w') ∧ w'.cell? ⟨gb, o + k, none⟩ = some (.int .i64 x))) 10 (Spec.val ?_ :: Spec.val ?_ :: Spec.val ?_ :: Spec.val ?_ :: Spec.val ?_ :: Spec.val ?_ :: Spec.val ?_ :: Spec.val ?_ :: Spec.val ?_ :: Spec.val ?_ :: []) (by kernel_rfl) (by kernel_rfl) rfl (fun w1 w2 h hb => ⟨⟨h.1.1.step_ hb, chain h.1.2 hb⟩, cell_step h.2 hb⟩) (⟨⟨HD1.out.step_ (Below.refl _ _).drew, HB1.out.drew⟩, cell_step HC.out HB1.out.drew⟩) ?hm1
          case' hm1 => skip
          refine inv_val (i := 0) (by kernel_rfl) rfl rfl (fun w1 hS hd K hK => ?_) ?_
          · (try dsimp only at hS); go_simp; exact hK.out _ _ (by simp only [Act.put, List.setIfInBounds_toArray, List.set_cons_zero, List.set_cons_succ, List.nil_append, List.cons_append]; rfl) (Below.refl _ _)
          simp only [Act.put, List.setIfInBounds_toArray, List.set_cons_zero, List.set_cons_succ, List.nil_append, List.cons_append]
          refine inv_val (i := 1) (by kernel_rfl) rfl rfl (fun w1 hS hd K hK => ?_) ?_
          · (try dsimp only at hS); go_simp; exact hK.out _ _ (by simp only [Act.put, List.setIfInBounds_toArray, List.set_cons_zero, List.set_cons_succ, List.nil_append, List.cons_append]; rfl) (Below.refl _ _)
          simp only [Act.put, List.setIfInBounds_toArray, List.set_cons_zero, List.set_cons_succ, List.nil_append, List.cons_append]
          refine inv_val (i := 2) (by kernel_rfl) rfl rfl (fun w1 hS hd K hK => ?_) ?_
          · (try dsimp only at hS); go_simp; exact hK.out _ _ (by simp only [Act.put, List.setIfInBounds_toArray, List.set_cons_zero, List.set_cons_succ, List.nil_append, List.cons_append]; rfl) (Below.refl _ _)
          simp only [Act.put, List.setIfInBounds_toArray, List.set_cons_zero, List.set_cons_succ, List.nil_append, List.cons_append]
          refine inv_val (i := 3) (by kernel_rfl) rfl rfl (fun w1 hS hd K hK => ?_) ?_
          · (try dsimp only at hS); go_simp; exact hK.out _ _ (by simp only [Act.put, List.setIfInBounds_toArray, List.set_cons_zero, List.set_cons_succ, List.nil_append, List.cons_append]; rfl) (Below.refl _ _)
          simp only [Act.put, List.setIfInBounds_toArray, List.set_cons_zero, List.set_cons_succ, List.nil_append, List.cons_append]
          refine inv_val (i := 4) (by kernel_rfl) rfl rfl (fun w1 hS hd K hK => ?_) ?_
          · (try dsimp only at hS); go_simp; exact hK.out _ _ (by simp only [Act.put, List.setIfInBounds_toArray, List.set_cons_zero, List.set_cons_succ, List.nil_append, List.cons_append]; rfl) (Below.refl _ _)
          simp only [Act.put, List.setIfInBounds_toArray, List.set_cons_zero, List.set_cons_succ, List.nil_append, List.cons_append]
          refine inv_val (i := 5) (by kernel_rfl) rfl rfl (fun w1 hS hd K hK => ?_) ?_
          · (try dsimp only at hS); go_simp; exact hK.out _ _ (by simp only [Act.put, List.setIfInBounds_toArray, List.set_cons_zero, List.set_cons_succ, List.nil_append, List.cons_append]; rfl) (Below.refl _ _)
          simp only [Act.put, List.setIfInBounds_toArray, List.set_cons_zero, List.set_cons_succ, List.nil_append, List.cons_append]
          refine inv_val (i := 6) (by kernel_rfl) rfl rfl (fun w1 hS hd K hK => ?_) ?_
          · (try dsimp only at hS); go_simp; exact hK.out _ _ (by simp only [Act.put, List.setIfInBounds_toArray, List.set_cons_zero, List.set_cons_succ, List.nil_append, List.cons_append]; rfl) (Below.refl _ _)
          simp only [Act.put, List.setIfInBounds_toArray, List.set_cons_zero, List.set_cons_succ, List.nil_append, List.cons_append]
          refine inv_val (i := 7) (by kernel_rfl) rfl rfl (fun w1 hS hd K hK => ?_) ?_
          · (try dsimp only at hS); go_simp; exact hK.out _ _ (by simp only [Act.put, List.setIfInBounds_toArray, List.set_cons_zero, List.set_cons_succ, List.nil_append, List.cons_append]; rfl) (Below.refl _ _)
          simp only [Act.put, List.setIfInBounds_toArray, List.set_cons_zero, List.set_cons_succ, List.nil_append, List.cons_append]
          refine inv_val (i := 8) (by kernel_rfl) rfl rfl (fun w1 hS hd K hK => ?_) ?_
          · (try dsimp only at hS); go_simp; exact hK.out _ _ (by simp only [Act.put, List.setIfInBounds_toArray, List.set_cons_zero, List.set_cons_succ, List.nil_append, List.cons_append]; rfl) (Below.refl _ _)
          simp only [Act.put, List.setIfInBounds_toArray, List.set_cons_zero, List.set_cons_succ, List.nil_append, List.cons_append]
          refine inv_val (i := 9) (by kernel_rfl) rfl rfl (fun w1 hS hd K hK => ?_) ?_
          · (try dsimp only at hS); go_simp; refine (fill_at (1 + k) (wr_one hk9) hkc).mono ?_; rintro e w2 ⟨rfl, hb⟩; exact hK.out _ _ (by simp only [Act.put, List.setIfInBounds_toArray, List.set_cons_zero, List.set_cons_succ, List.nil_append, List.cons_append]; rfl) hb
          simp only [Act.put, List.setIfInBounds_toArray, List.set_cons_zero, List.set_cons_succ, List.nil_append, List.cons_append]
          refine inv_tail2 (by kernel_rfl) rfl rfl (fun w2 hS hd _ => ?_)
          have HD2 := Lib.hid hS.1.1
          have HB2 := Lib.hid hS.1.2
          clear hS hd
          go_wp2_with fail
          refine (write_any q (fillB (1 + k)) HD2.out.disk (by omega) (by unfold I64; omega) WB.out (by rw [fillB_size]; decide)).mono ?_
          rintro e w3 ⟨rfl, hd, hs⟩
          rw [WR.out] at hd ⊢
          have HB3 := Lib.hid (HB2.out.trans (HD2.out.disk.below hs))
          have HD3 := Lib.hid (HD2.out.ret hd (NK.out) hs)
          clear hd hs
          go_wp2_with fail
          refine wp_region_inv (R := Blw) (S := (fun w' => (WD w' w.heap.size p (k + 1) (DA (DV.fresh 8) 1 a (k + 1)) g (wantA a k) ∧ Below w.heap.size w w') ∧ w'.cell? ⟨gb, o + k, none⟩ = some (.int .i64 x))) 11 (Spec.val ?_ :: Spec.val ?_ :: Spec.val ?_ :: Spec.val ?_ :: Spec.val ?_ :: Spec.val ?_ :: Spec.val ?_ :: Spec.val ?_ :: Spec.val ?_ :: Spec.val ?_ :: Spec.val ?_ :: []) (by kernel_rfl) (by kernel_rfl) rfl (fun w1 w2 h hb => ⟨⟨h.1.1.step_ hb, chain h.1.2 hb⟩, cell_step h.2 hb⟩) (⟨⟨HD3.out.step_ (Below.refl _ _).drew, HB3.out.drew⟩, cell_step HC.out HB3.out.drew⟩) ?hm2
          case' hm2 => skip
          refine inv_val (i := 0) (by kernel_rfl) rfl rfl (fun w1 hS hd K hK => ?_) ?_
          · (try dsimp only at hS); go_simp; exact hK.out _ _ (by simp only [Act.put, List.setIfInBounds_toArray, List.set_cons_zero, List.set_cons_succ, List.nil_append, List.cons_append]; rfl) (Below.refl _ _)
          simp only [Act.put, List.setIfInBounds_toArray, List.set_cons_zero, List.set_cons_succ, List.nil_append, List.cons_append]
          refine inv_val (i := 1) (by kernel_rfl) rfl rfl (fun w1 hS hd K hK => ?_) ?_
          · (try dsimp only at hS); go_simp; exact hK.out _ _ (by simp only [Act.put, List.setIfInBounds_toArray, List.set_cons_zero, List.set_cons_succ, List.nil_append, List.cons_append]; rfl) (Below.refl _ _)
          simp only [Act.put, List.setIfInBounds_toArray, List.set_cons_zero, List.set_cons_succ, List.nil_append, List.cons_append]
          refine inv_val (i := 2) (by kernel_rfl) rfl rfl (fun w1 hS hd K hK => ?_) ?_
          · (try dsimp only at hS); go_simp; exact hK.out _ _ (by simp only [Act.put, List.setIfInBounds_toArray, List.set_cons_zero, List.set_cons_succ, List.nil_append, List.cons_append]; rfl) (Below.refl _ _)
          simp only [Act.put, List.setIfInBounds_toArray, List.set_cons_zero, List.set_cons_succ, List.nil_append, List.cons_append]
          refine inv_val (i := 3) (by kernel_rfl) rfl rfl (fun w1 hS hd K hK => ?_) ?_
          · (try dsimp only at hS); go_simp; exact hK.out _ _ (by simp only [Act.put, List.setIfInBounds_toArray, List.set_cons_zero, List.set_cons_succ, List.nil_append, List.cons_append]; rfl) (Below.refl _ _)
          simp only [Act.put, List.setIfInBounds_toArray, List.set_cons_zero, List.set_cons_succ, List.nil_append, List.cons_append]
          refine inv_val (i := 4) (by kernel_rfl) rfl rfl (fun w1 hS hd K hK => ?_) ?_
          · (try dsimp only at hS); go_simp; exact hK.out _ _ (by simp only [Act.put, List.setIfInBounds_toArray, List.set_cons_zero, List.set_cons_succ, List.nil_append, List.cons_append]; rfl) (Below.refl _ _)
          simp only [Act.put, List.setIfInBounds_toArray, List.set_cons_zero, List.set_cons_succ, List.nil_append, List.cons_append]
          refine inv_val (i := 5) (by kernel_rfl) rfl rfl (fun w1 hS hd K hK => ?_) ?_
          · (try dsimp only at hS); go_simp; exact hK.out _ _ (by simp only [Act.put, List.setIfInBounds_toArray, List.set_cons_zero, List.set_cons_succ, List.nil_append, List.cons_append]; rfl) (Below.refl _ _)
          simp only [Act.put, List.setIfInBounds_toArray, List.set_cons_zero, List.set_cons_succ, List.nil_append, List.cons_append]
          refine inv_val (i := 6) (by kernel_rfl) rfl rfl (fun w1 hS hd K hK => ?_) ?_
          · (try dsimp only at hS); go_simp; exact hK.out _ _ (by simp only [Act.put, List.setIfInBounds_toArray, List.set_cons_zero, List.set_cons_succ, List.nil_append, List.cons_append]; rfl) (Below.refl _ _)
          simp only [Act.put, List.setIfInBounds_toArray, List.set_cons_zero, List.set_cons_succ, List.nil_append, List.cons_append]
          refine inv_val (i := 7) (by kernel_rfl) rfl rfl (fun w1 hS hd K hK => ?_) ?_
          · (try dsimp only at hS); go_simp; exact hK.out _ _ (by simp only [Act.put, List.setIfInBounds_toArray, List.set_cons_zero, List.set_cons_succ, List.nil_append, List.cons_append]; rfl) (Below.refl _ _)
          simp only [Act.put, List.setIfInBounds_toArray, List.set_cons_zero, List.set_cons_succ, List.nil_append, List.cons_append]
          refine inv_val (i := 8) (by kernel_rfl) rfl rfl (fun w1 hS hd K hK => ?_) ?_
          · (try dsimp only at hS); go_simp; exact hK.out _ _ (by simp only [Act.put, List.setIfInBounds_toArray, List.set_cons_zero, List.set_cons_succ, List.nil_append, List.cons_append]; rfl) (Below.refl _ _)
          simp only [Act.put, List.setIfInBounds_toArray, List.set_cons_zero, List.set_cons_succ, List.nil_append, List.cons_append]
          refine inv_val (i := 9) (by kernel_rfl) rfl rfl (fun w1 hS hd K hK => ?_) ?_
          · (try dsimp only at hS); go_simp; refine (fill_at (1 + k) (wr_one hk9) hkc).mono ?_; rintro e w2 ⟨rfl, hb⟩; exact hK.out _ _ (by simp only [Act.put, List.setIfInBounds_toArray, List.set_cons_zero, List.set_cons_succ, List.nil_append, List.cons_append]; rfl) hb
          simp only [Act.put, List.setIfInBounds_toArray, List.set_cons_zero, List.set_cons_succ, List.nil_append, List.cons_append]
          refine inv_val (i := 10) (by kernel_rfl) rfl rfl (fun w1 hS hd K hK => ?_) ?_
          · (try dsimp only at hS); go_simp; exact hK.out _ _ (by simp only [Act.put, List.setIfInBounds_toArray, List.set_cons_zero, List.set_cons_succ, List.nil_append, List.cons_append]; rfl) (Below.refl _ _)
          simp only [Act.put, List.setIfInBounds_toArray, List.set_cons_zero, List.set_cons_succ, List.nil_append, List.cons_append]
          refine inv_tail1 (by kernel_rfl) rfl (fun w4 hS hd => ?_)
          have HD4 := Lib.hid hS.1.1
          have HB4 := Lib.hid hS.1.2
          clear hS hd
          have hcw := HD4.out.cell hq8
          have hfw := frozen_row (o := q) HD4.out.row
          go_wp2
          go_roundw
          case rel => exact ⟨k + 1, by omega, by go_num, Lib.hid ((HD4.out.set q (fillB (1 + k)) hq8).congr (fun i _ => wantA_step hlt HQ.out i)), Lib.hid (bel_set HB4.out HD4.out.ge)⟩
          case measure => simp [intOf]; omega
        · have hka : k = a.length := by omega
          have fa := FA.out a.length (Nat.le_refl _)
          have WB := Lib.hid (show 0 ≤ (DA (DV.fresh 8) 1 a a.length).writes ∧ (DA (DV.fresh 8) 1 a a.length).writes ≤ 1000000000000 by rw [fa.2.2.1]; show 0 ≤ (0 : Int) + a.length ∧ (0 : Int) + a.length ≤ 1000000000000; omega)
          have FE := Lib.hid (show (DA (DV.fresh 8) 1 a a.length).flush = (DF a, 0) from flush_ok fa.1 (by rw [fa.2.1]; intro h; cases h))
          rw [hka] at HD1 ⊢
          clear fa hlt hk hka k
          go_wp2_with fail
          refine (flush_any HD1.out.disk (by omega) WB.out).mono ?_
          rintro e w3 ⟨rfl, hd, hs⟩
          rw [FE.out] at hd ⊢
          have ff := DF_facts a
          have HB3 := Lib.hid (HB1.out.trans (HD1.out.disk.below hs))
          have HD3 := Lib.hid (HD1.out.ret hd (ff.2.2.2.2.1) hs)
          clear hd hs
          clear HD1 HB1 WB FE FA VA LTA
          have FB := Lib.hid (DA_facts (DF a) 100 b ff.1 ff.2.1 ff.2.2.2.2.2.1 ff.2.2.2.2.1)
          have FF := Lib.hid ff
          clear ff
          go_wp2_with fail
          go_loopw [11] (fun x wr => ∃ k : Nat, k ≤ b.length ∧ x = .int .i64 k ∧ Hid (WD wr w.heap.size p (a.length + k) (DA (DF a) 100 b k) g (wantB a b keep k)) ∧ Hid (Below w.heap.size w wr)) (fun x _ => b.length - (intOf x).toNat)
          case atStart => exact ⟨0, by omega, rfl, Lib.hid (HD3.out.congr (fun i _ => rfl)), HB3⟩
          case round =>
            clear HD3 HB3
            obtain ⟨k, hk, rfl, HD1, HB1⟩ := hrel
            by_cases hlt : k < b.length
            · obtain ⟨gb, o, rfl, hcell, hI⟩ := ints_bit VB.out hlt
              obtain ⟨x, hx⟩ : ∃ x, x = b.getD k 0 := ⟨_, rfl⟩
              rw [← hx] at hcell hI
              have HC := Lib.hid hcell
              obtain ⟨q, hq⟩ : ∃ q : Nat, (q : Int) = x % 8 := ⟨(x % 8).toNat, by omega⟩
              have hq8 : q < 8 := by omega
              have hq9 : (q : Int) < 8 := by omega
              have hand := and7 x
              rw [← hq] at hand
              have HQ := Lib.hid (show (q : Int) = b.getD k 0 % 8 by rw [hq, hx])
              clear hx hI hq hcell
              have fb := FB.out k hk
              have ff := FF.out
              have WB := Lib.hid (show 0 ≤ (DA (DF a) 100 b k).writes ∧ (DA (DF a) 100 b k).writes ≤ 1000000000000 by rw [fb.2.2.1, ff.2.2.1]; omega)
              have NK := Lib.hid (FB.out (k + 1) hlt).2.2.2.2.1
              have WR := Lib.hid (DA_write (d := DF a) (base := 100) ff.1 ff.2.1 ff.2.2.2.2.2.1 ff.2.2.2.2.1 ff.2.2.2.1 hlt HQ.out)
              clear fb ff
              have hk9 : k < 100 := by omega
              have hkc : 100 + k < 256 := by omega
              go_wp2_with fail
              refine wp_region_inv (R := Blw) (S := (fun w' => (WD w' w.heap.size p (a.length + k) (DA (DF a) 100 b k) g (wantB a b keep k) ∧ Below w.heap.size w w') ∧ w'.cell? ⟨gb, o + k, none⟩ = some (.int .i64 x))) 10 (Spec.val ?_ :: Spec.val ?_ :: Spec.val ?_ :: Spec.val ?_ :: Spec.val ?_ :: Spec.val ?_ :: Spec.val ?_ :: Spec.val ?_ :: Spec.val ?_ :: Spec.val ?_ :: []) (by kernel_rfl) (by kernel_rfl) rfl (fun w1 w2 h hb => ⟨⟨h.1.1.step_ hb, chain h.1.2 hb⟩, cell_step h.2 hb⟩) (⟨⟨HD1.out.step_ (Below.refl _ _).drew, HB1.out.drew⟩, cell_step HC.out HB1.out.drew⟩) ?hm3
              case' hm3 => skip
              refine inv_val (i := 0) (by kernel_rfl) rfl rfl (fun w1 hS hd K hK => ?_) ?_
              · (try dsimp only at hS); go_simp; exact hK.out _ _ (by simp only [Act.put, List.setIfInBounds_toArray, List.set_cons_zero, List.set_cons_succ, List.nil_append, List.cons_append]; rfl) (Below.refl _ _)
              simp only [Act.put, List.setIfInBounds_toArray, List.set_cons_zero, List.set_cons_succ, List.nil_append, List.cons_append]
              refine inv_val (i := 1) (by kernel_rfl) rfl rfl (fun w1 hS hd K hK => ?_) ?_
              · (try dsimp only at hS); go_simp; exact hK.out _ _ (by simp only [Act.put, List.setIfInBounds_toArray, List.set_cons_zero, List.set_cons_succ, List.nil_append, List.cons_append]; rfl) (Below.refl _ _)
              simp only [Act.put, List.setIfInBounds_toArray, List.set_cons_zero, List.set_cons_succ, List.nil_append, List.cons_append]
              refine inv_val (i := 2) (by kernel_rfl) rfl rfl (fun w1 hS hd K hK => ?_) ?_
              · (try dsimp only at hS); go_simp; exact hK.out _ _ (by simp only [Act.put, List.setIfInBounds_toArray, List.set_cons_zero, List.set_cons_succ, List.nil_append, List.cons_append]; rfl) (Below.refl _ _)
              simp only [Act.put, List.setIfInBounds_toArray, List.set_cons_zero, List.set_cons_succ, List.nil_append, List.cons_append]
              refine inv_val (i := 3) (by kernel_rfl) rfl rfl (fun w1 hS hd K hK => ?_) ?_
              · (try dsimp only at hS); go_simp; exact hK.out _ _ (by simp only [Act.put, List.setIfInBounds_toArray, List.set_cons_zero, List.set_cons_succ, List.nil_append, List.cons_append]; rfl) (Below.refl _ _)
              simp only [Act.put, List.setIfInBounds_toArray, List.set_cons_zero, List.set_cons_succ, List.nil_append, List.cons_append]
              refine inv_val (i := 4) (by kernel_rfl) rfl rfl (fun w1 hS hd K hK => ?_) ?_
              · (try dsimp only at hS); go_simp; exact hK.out _ _ (by simp only [Act.put, List.setIfInBounds_toArray, List.set_cons_zero, List.set_cons_succ, List.nil_append, List.cons_append]; rfl) (Below.refl _ _)
              simp only [Act.put, List.setIfInBounds_toArray, List.set_cons_zero, List.set_cons_succ, List.nil_append, List.cons_append]
              refine inv_val (i := 5) (by kernel_rfl) rfl rfl (fun w1 hS hd K hK => ?_) ?_
              · (try dsimp only at hS); go_simp; exact hK.out _ _ (by simp only [Act.put, List.setIfInBounds_toArray, List.set_cons_zero, List.set_cons_succ, List.nil_append, List.cons_append]; rfl) (Below.refl _ _)
              simp only [Act.put, List.setIfInBounds_toArray, List.set_cons_zero, List.set_cons_succ, List.nil_append, List.cons_append]
              refine inv_val (i := 6) (by kernel_rfl) rfl rfl (fun w1 hS hd K hK => ?_) ?_
              · (try dsimp only at hS); go_simp; exact hK.out _ _ (by simp only [Act.put, List.setIfInBounds_toArray, List.set_cons_zero, List.set_cons_succ, List.nil_append, List.cons_append]; rfl) (Below.refl _ _)
              simp only [Act.put, List.setIfInBounds_toArray, List.set_cons_zero, List.set_cons_succ, List.nil_append, List.cons_append]
              refine inv_val (i := 7) (by kernel_rfl) rfl rfl (fun w1 hS hd K hK => ?_) ?_
              · (try dsimp only at hS); go_simp; exact hK.out _ _ (by simp only [Act.put, List.setIfInBounds_toArray, List.set_cons_zero, List.set_cons_succ, List.nil_append, List.cons_append]; rfl) (Below.refl _ _)
              simp only [Act.put, List.setIfInBounds_toArray, List.set_cons_zero, List.set_cons_succ, List.nil_append, List.cons_append]
              refine inv_val (i := 8) (by kernel_rfl) rfl rfl (fun w1 hS hd K hK => ?_) ?_
              · (try dsimp only at hS); go_simp; exact hK.out _ _ (by simp only [Act.put, List.setIfInBounds_toArray, List.set_cons_zero, List.set_cons_succ, List.nil_append, List.cons_append]; rfl) (Below.refl _ _)
              simp only [Act.put, List.setIfInBounds_toArray, List.set_cons_zero, List.set_cons_succ, List.nil_append, List.cons_append]
              refine inv_val (i := 9) (by kernel_rfl) rfl rfl (fun w1 hS hd K hK => ?_) ?_
              · (try dsimp only at hS); go_simp; refine (fill_at (100 + k) (wr_hundred hk9) hkc).mono ?_; rintro e w2 ⟨rfl, hb⟩; exact hK.out _ _ (by simp only [Act.put, List.setIfInBounds_toArray, List.set_cons_zero, List.set_cons_succ, List.nil_append, List.cons_append]; rfl) hb
              simp only [Act.put, List.setIfInBounds_toArray, List.set_cons_zero, List.set_cons_succ, List.nil_append, List.cons_append]
              refine inv_tail2 (by kernel_rfl) rfl rfl (fun w2 hS hd _ => ?_)
              have HD2 := Lib.hid hS.1.1
              have HB2 := Lib.hid hS.1.2
              clear hS hd
              go_wp2_with fail
              refine (write_any q (fillB (100 + k)) HD2.out.disk (by omega) (by unfold I64; omega) WB.out (by rw [fillB_size]; decide)).mono ?_
              rintro e w3 ⟨rfl, hd, hs⟩
              rw [WR.out] at hd ⊢
              have HB3 := Lib.hid (HB2.out.trans (HD2.out.disk.below hs))
              have HD3 := Lib.hid (HD2.out.ret hd (NK.out) hs)
              clear hd hs
              by_cases g2 : k < keep.length
              · obtain ⟨kb, ko, rfl, hkc, hI⟩ := ints_bit (VK.out.below HB3.out) g2
                obtain ⟨y, hy⟩ : ∃ y, y = keep.getD k 0 := ⟨_, rfl⟩
                rw [← hy] at hkc hI
                have hand1 := and1 y
                have HY := Lib.hid hy
                clear hy hI
                by_cases g3 : y % 2 = 1
                · have HBT := Lib.hid (show keepBit keep k = true by unfold keepBit; rw [← HY.out]; simp only [g2, decide_true, Bool.true_and, decide_eq_true_eq]; exact g3)
                  rw [g3] at hand1
                  clear g3
                  go_wp2_with fail
                  clear hkc hand1
                  refine wp_region_inv (R := Blw) (S := (fun w' => (WD w' w.heap.size p (a.length + (k + 1)) (DA (DF a) 100 b (k + 1)) g (wantB a b keep k) ∧ Below w.heap.size w w') ∧ w'.cell? ⟨gb, o + k, none⟩ = some (.int .i64 x))) 11 (Spec.val ?_ :: Spec.val ?_ :: Spec.val ?_ :: Spec.val ?_ :: Spec.val ?_ :: Spec.val ?_ :: Spec.val ?_ :: Spec.val ?_ :: Spec.val ?_ :: Spec.val ?_ :: Spec.val ?_ :: []) (by kernel_rfl) (by kernel_rfl) rfl (fun w1 w2 h hb => ⟨⟨h.1.1.step_ hb, chain h.1.2 hb⟩, cell_step h.2 hb⟩) (⟨⟨HD3.out.step_ (Below.refl _ _).drew, HB3.out.drew⟩, cell_step HC.out HB3.out.drew⟩) ?hm4
                  case' hm4 => skip
                  refine inv_val (i := 0) (by kernel_rfl) rfl rfl (fun w1 hS hd K hK => ?_) ?_
                  · (try dsimp only at hS); go_simp; exact hK.out _ _ (by simp only [Act.put, List.setIfInBounds_toArray, List.set_cons_zero, List.set_cons_succ, List.nil_append, List.cons_append]; rfl) (Below.refl _ _)
                  simp only [Act.put, List.setIfInBounds_toArray, List.set_cons_zero, List.set_cons_succ, List.nil_append, List.cons_append]
                  refine inv_val (i := 1) (by kernel_rfl) rfl rfl (fun w1 hS hd K hK => ?_) ?_
                  · (try dsimp only at hS); go_simp; exact hK.out _ _ (by simp only [Act.put, List.setIfInBounds_toArray, List.set_cons_zero, List.set_cons_succ, List.nil_append, List.cons_append]; rfl) (Below.refl _ _)
                  simp only [Act.put, List.setIfInBounds_toArray, List.set_cons_zero, List.set_cons_succ, List.nil_append, List.cons_append]
                  refine inv_val (i := 2) (by kernel_rfl) rfl rfl (fun w1 hS hd K hK => ?_) ?_
                  · (try dsimp only at hS); go_simp; exact hK.out _ _ (by simp only [Act.put, List.setIfInBounds_toArray, List.set_cons_zero, List.set_cons_succ, List.nil_append, List.cons_append]; rfl) (Below.refl _ _)
                  simp only [Act.put, List.setIfInBounds_toArray, List.set_cons_zero, List.set_cons_succ, List.nil_append, List.cons_append]
                  refine inv_val (i := 3) (by kernel_rfl) rfl rfl (fun w1 hS hd K hK => ?_) ?_
                  · (try dsimp only at hS); go_simp; exact hK.out _ _ (by simp only [Act.put, List.setIfInBounds_toArray, List.set_cons_zero, List.set_cons_succ, List.nil_append, List.cons_append]; rfl) (Below.refl _ _)
                  simp only [Act.put, List.setIfInBounds_toArray, List.set_cons_zero, List.set_cons_succ, List.nil_append, List.cons_append]
                  refine inv_val (i := 4) (by kernel_rfl) rfl rfl (fun w1 hS hd K hK => ?_) ?_
                  · (try dsimp only at hS); go_simp; exact hK.out _ _ (by simp only [Act.put, List.setIfInBounds_toArray, List.set_cons_zero, List.set_cons_succ, List.nil_append, List.cons_append]; rfl) (Below.refl _ _)
                  simp only [Act.put, List.setIfInBounds_toArray, List.set_cons_zero, List.set_cons_succ, List.nil_append, List.cons_append]
                  refine inv_val (i := 5) (by kernel_rfl) rfl rfl (fun w1 hS hd K hK => ?_) ?_
                  · (try dsimp only at hS); go_simp; exact hK.out _ _ (by simp only [Act.put, List.setIfInBounds_toArray, List.set_cons_zero, List.set_cons_succ, List.nil_append, List.cons_append]; rfl) (Below.refl _ _)
                  simp only [Act.put, List.setIfInBounds_toArray, List.set_cons_zero, List.set_cons_succ, List.nil_append, List.cons_append]
                  refine inv_val (i := 6) (by kernel_rfl) rfl rfl (fun w1 hS hd K hK => ?_) ?_
                  · (try dsimp only at hS); go_simp; exact hK.out _ _ (by simp only [Act.put, List.setIfInBounds_toArray, List.set_cons_zero, List.set_cons_succ, List.nil_append, List.cons_append]; rfl) (Below.refl _ _)
                  simp only [Act.put, List.setIfInBounds_toArray, List.set_cons_zero, List.set_cons_succ, List.nil_append, List.cons_append]
                  refine inv_val (i := 7) (by kernel_rfl) rfl rfl (fun w1 hS hd K hK => ?_) ?_
                  · (try dsimp only at hS); go_simp; exact hK.out _ _ (by simp only [Act.put, List.setIfInBounds_toArray, List.set_cons_zero, List.set_cons_succ, List.nil_append, List.cons_append]; rfl) (Below.refl _ _)
                  simp only [Act.put, List.setIfInBounds_toArray, List.set_cons_zero, List.set_cons_succ, List.nil_append, List.cons_append]
                  refine inv_val (i := 8) (by kernel_rfl) rfl rfl (fun w1 hS hd K hK => ?_) ?_
                  · (try dsimp only at hS); go_simp; exact hK.out _ _ (by simp only [Act.put, List.setIfInBounds_toArray, List.set_cons_zero, List.set_cons_succ, List.nil_append, List.cons_append]; rfl) (Below.refl _ _)
                  simp only [Act.put, List.setIfInBounds_toArray, List.set_cons_zero, List.set_cons_succ, List.nil_append, List.cons_append]
                  refine inv_val (i := 9) (by kernel_rfl) rfl rfl (fun w1 hS hd K hK => ?_) ?_
                  · (try dsimp only at hS); go_simp; refine (fill_at (100 + k) (wr_hundred hk9) hkc).mono ?_; rintro e w2 ⟨rfl, hb⟩; exact hK.out _ _ (by simp only [Act.put, List.setIfInBounds_toArray, List.set_cons_zero, List.set_cons_succ, List.nil_append, List.cons_append]; rfl) hb
                  simp only [Act.put, List.setIfInBounds_toArray, List.set_cons_zero, List.set_cons_succ, List.nil_append, List.cons_append]
                  refine inv_val (i := 10) (by kernel_rfl) rfl rfl (fun w1 hS hd K hK => ?_) ?_
                  · (try dsimp only at hS); go_simp; exact hK.out _ _ (by simp only [Act.put, List.setIfInBounds_toArray, List.set_cons_zero, List.set_cons_succ, List.nil_append, List.cons_append]; rfl) (Below.refl _ _)
                  simp only [Act.put, List.setIfInBounds_toArray, List.set_cons_zero, List.set_cons_succ, List.nil_append, List.cons_append]
                  refine inv_tail1 (by kernel_rfl) rfl (fun w4 hS hd => ?_)
                  have HD4 := Lib.hid hS.1.1
                  have HB4 := Lib.hid hS.1.2
                  clear hS hd
                  have hcw := HD4.out.cell hq8
                  have hfw := frozen_row (o := q) HD4.out.row
                  go_wp2
                  go_roundw
                  case rel => exact ⟨k + 1, by omega, by go_num, Lib.hid ((HD4.out.set q (fillB (100 + k)) hq8).congr (fun i _ => wantB_yes hlt HQ.out HBT.out i)), Lib.hid (bel_set HB4.out HD4.out.ge)⟩
                  case measure => simp [intOf]; omega
                · have HBT := Lib.hid (show ¬ keepBit keep k = true by unfold keepBit; rw [← HY.out]; simp only [g2, decide_true, Bool.true_and, decide_eq_true_eq]; exact g3)
                  have g4 : y % 2 = 0 := by omega
                  rw [g4] at hand1
                  clear g3 g4
                  go_wp2
                  go_roundw
                  case rel => exact ⟨k + 1, by omega, by go_num, Lib.hid (HD3.out.congr (fun i _ => wantB_no HBT.out i)), HB3⟩
                  case measure => simp [intOf]; omega
              · have HBT := Lib.hid (show ¬ keepBit keep k = true by unfold keepBit; simp; intro h; omega)
                go_wp2
                go_roundw
                case rel => exact ⟨k + 1, by omega, by go_num, Lib.hid (HD3.out.congr (fun i _ => wantB_no HBT.out i)), HB3⟩
                case measure => simp [intOf]; omega
            · have hkb : k = b.length := by omega
              rw [hkb] at HD1
              have hkb9 : (k : Int) = b.length := by omega
              rw [hkb9]
              clear hlt hk hkb hkb9 k
              have fb := FB.out b.length (Nat.le_refl _)
              have ff := FF.out
              obtain ⟨z1, z2, z3⟩ := DZ_facts a b keep
              have WL := Lib.hid (show (DA (DF a) 100 b b.length).waits.length = b.length by rw [fb.2.2.2.2.2.1, List.take_of_length_le (by rw [WA_len]; exact Nat.le_refl _), WA_len])
              have CN := Lib.hid (show (DA (DF a) 100 b b.length).cutN = b.length by unfold DV.cutN; rw [if_pos fb.1, WL.out])
              have CO := Lib.hid (show ((DA (DF a) 100 b b.length).cut keep).on = false by unfold DV.cut; rw [if_pos fb.1])
              have CK := Lib.hid (show ((DA (DF a) 100 b b.length).cut keep).keep = [] by unfold DV.cut; rw [if_pos fb.1])
              have Z1 := Lib.hid (show ((DZ a b keep).waits.length : Int) = 0 by rw [z1]; rfl)
              have Z2 := Lib.hid z2
              have Z3 := Lib.hid z3
              clear fb ff z1 z2 z3 FF FB VB LTB
              go_wp2_with fail
              refine (waiting_any HD1.out.disk).mono ?_
              rintro e w2 ⟨rfl, hb⟩
              rw [WL.out]
              have HD2 := Lib.hid (HD1.out.step_ hb)
              have HB2 := Lib.hid (chain HB1.out hb)
              clear hb
              go_wp2_with fail
              refine (cut_any _ keep HD2.out.disk (out_arg HD2.out.disk (VK.out.below HB2.out) LTK.out) (by omega)).mono ?_
              rintro e w3 ⟨rfl, hd, hs⟩
              rw [CN.out]
              have HB3 := Lib.hid (HB2.out.trans (HD2.out.disk.below hs))
              have HD3 := Lib.hid (HD2.out.ret hd (CK.out) hs)
              clear hd hs
              go_wp2_with fail
              refine (on_any HD3.out.disk).mono ?_
              rintro e w4 ⟨rfl, hb⟩
              rw [CO.out]
              have HD4 := Lib.hid (HD3.out.step_ hb)
              have HB4 := Lib.hid (chain HB3.out hb)
              clear hb
              go_wp2_with fail
              refine (restore_any HD4.out.disk).mono ?_
              rintro e w5 ⟨rfl, hd, hs⟩
              rw [show ((DA (DF a) 100 b b.length).cut keep).restore = DZ a b keep from rfl] at hd
              have HB5 := Lib.hid (HB4.out.trans (HD4.out.disk.below hs))
              have HD5 := Lib.hid (HD4.out.ret hd (Z2.out) hs)
              clear hd hs
              clear HD1 HD2 HD3 HD4 HB1 HB2 HB3 HB4 WL CN CO CK VK LTK
              go_wp2_with fail
              go_loopw [12] (fun x wr => ∃ k : Nat, k ≤ 8 ∧ x = .int .i64 k ∧ Hid (WD wr w.heap.size p (a.length + b.length) (DZ a b keep) g (wantB a b keep b.length)) ∧ Hid (Below w.heap.size w wr)) (fun x _ => 8 - (intOf x).toNat)
              case atStart => exact ⟨0, by omega, rfl, HD5, HB5⟩
              case round =>
                clear HD5 HB5
                obtain ⟨k, hk, rfl, HD1, HB1⟩ := hrel
                by_cases hlt : k < 8
                · have HR := Lib.hid (Z3.out k hlt)
                  go_wp2_with fail
                  refine (read_any k HD1.out.disk (by unfold I64; omega)).mono ?_
                  rintro e w2 ⟨rfl, hb⟩
                  rw [HR.out]
                  have HD2 := Lib.hid (HD1.out.step_ hb)
                  have HB2 := Lib.hid (chain HB1.out hb)
                  clear hb
                  have hcw := HD2.out.cell hlt
                  go_wp2
                  go_roundw
                  case rel => exact ⟨k + 1, by omega, by go_num, HD2, HB2⟩
                  case measure => simp [intOf]; omega
                · have hk8 : k = 8 := by omega
                  subst hk8
                  clear hlt hk
                  go_wp2_with fail
                  refine (alive_any _).mono ?_
                  rintro e w2 ⟨rfl, hb⟩
                  have HD2 := Lib.hid (HD1.out.step_ hb)
                  have HB2 := Lib.hid (chain HB1.out hb)
                  clear hb
                  go_wp2_with fail
                  refine (waiting_any HD2.out.disk).mono ?_
                  rintro e w3 ⟨rfl, hb⟩
                  rw [Z1.out]
                  have HD3 := Lib.hid (HD2.out.step_ hb)
                  have HB3 := Lib.hid (chain HB2.out hb)
                  clear hb
                  go_wp2
                  go_ret
                  exact ⟨rfl, HB3.out⟩

set_option maxRecDepth 100000 in
set_option maxHeartbeats 1000000 in
theorem walkDiskLasts (va : Value) (a : List Int) (vb : Value) (b : List Int) (vk : Value) (keep : List Int) (w : World) (ha : IntsAt w va a) (hb : IntsAt w vb b) (hk : IntsAt w vk keep) : Calls Try.prog 4 #[va, vb, vk] w (BoolPost w true) := by
  by_cases hin : a.length ≤ 10 ∧ b.length ≤ 20 ∧ keep.length ≤ 30
  · exact walkDiskLastsIn va vb vk a b keep w ha hb hk hin.1 hin.2.1 hin.2.2
  · obtain ⟨aa, ca, rfl, _, hla, hxa⟩ := ha
    obtain ⟨ab, cb, rfl, _, hlb, hxb⟩ := hb
    obtain ⟨ak, ck, rfl, _, hlk, hxk⟩ := hk
    clear hxa hxb hxk
    by_cases h1 : (10 : Int) < a.length
    all_goals by_cases h2 : (20 : Int) < b.length
    all_goals by_cases h3 : (30 : Int) < keep.length
    all_goals first
      | (exfalso; omega)
      | (clear hin
         go_enter Try.func4, Try.ntmps4
         go_wp2_with fail
         refine (alive_any _).mono ?_
         rintro e w9 ⟨rfl, hb9⟩
         go_wp2
         go_ret
         exact ⟨rfl, hb9⟩)
end Go.Proofs.Ytppfgjjebfgcaaa
