/-
  The contract of super.Read.
-/
import Derived.Test.YtabkeggcaacldaaSuper4
import Derived.Test.YtabkeggcaacldaaSuper5
namespace Go.Proofs.Ytabkeggcaacldaa
open Go.RowKit
set_option linter.unusedVariables false
set_option linter.unusedSimpArgs false

/-- The best of the first k blocks. -/
def DV.best (d : DV) : Nat → SV
  | 0 => SV.zero
  | k + 1 => if (getR (d.read k).1).2 = 0 ∧ (d.best k).gen < (getR (d.read k).1).1.gen then (getR (d.read k).1).1 else d.best k
def DV.sr (d : DV) : SV × Int :=
  if d.on = false then (SV.zero, 14) else if (d.best 2).gen = 0 ∨ (d.best 2).blocks ≠ d.blocks then (SV.zero, 28) else (d.best 2, 0)
def DV.srV (d : DV) : Value := .tuple #[d.sr.1.val, .int .i64 d.sr.2]
theorem getR_ok (b : ByteArray) : (getR b).1.ok := by
  have h0 : SV.zero.ok := by unfold SV.ok SV.zero I64; dsimp only; omega
  unfold getR
  split
  · exact h0
  · split
    · exact h0
    · split
      · exact svOf_ok _
      · exact h0
theorem best_ok (d : DV) : ∀ k, (d.best k).ok
  | 0 => by unfold DV.best SV.ok SV.zero I64; dsimp only; omega
  | k + 1 => by unfold DV.best; split; exact getR_ok _; exact best_ok d k
theorem read_on {d : DV} {k : Int} (h : d.on = true) (h0 : 0 ≤ k) (h1 : k < d.blocks) : (d.read k).2 = 0 := by
  unfold DV.read readO
  rw [if_neg (by rw [h]; decide), if_neg (by omega)]
  split <;> rfl
theorem read_off {d : DV} {k : Int} (h : d.on = false) : d.read k = (ByteArray.empty, 14) := if_pos h

section
variable {w : World} {B p c : Nat} {d : DV}
set_option maxRecDepth 100000 in
set_option maxHeartbeats 2000000 in
theorem sread_any (h : DiskAt w B p c d) (hk : 2 ≤ d.blocks) (hz : ∀ k : Nat, (d.read k).1.size ≤ 1000000) : Calls Try.prog 18 #[.pointer (some ⟨p, 0, none⟩)] w (RetB w d.srV) := by
  have HD := Lib.hid h
  have HZ := Lib.hid hz
  have HK := Lib.hid hk
  clear h hz hk
  go_enter Try.func18, Try.ntmps18
  go_wp2
  go_loopw [10] (fun x wr => ∃ k : Nat, k ≤ 2 ∧ x = .int .i64 k ∧ (Hid (wr.heap[w.heap.size]? = some (.cells #[.int .u64 SV.zero.gen, .int .i64 SV.zero.blocks, .int .i64 SV.zero.bytes] 24)) ∧ Hid (wr.heap[w.heap.size + 1]? = some (.cells #[.int .u64 (d.best k).gen, .int .i64 (d.best k).blocks, .int .i64 (d.best k).bytes] 24)) ∧ Hid (Below w.heap.size w wr) ∧ Hid (k = 2 → d.on = true))) (fun x _ => 2 - (intOf x).toNat)
  case atStart => exact ⟨0, by omega, rfl, Lib.hid ((Below.heap_alloc _ _ _ (by simp)).trans (heap_alloc_new w _)), Lib.hid (heap_new_at (by simp)), Lib.hid (chain (bel_new _ _) (bel_new _ _)), Lib.hid (fun h => absurd h (by decide))⟩
  case round =>
    obtain ⟨k, hk, rfl, HR, HT, HB, HON⟩ := hrel
    by_cases hlt : k < 2
    · by_cases ho : d.on = true
      · have HO := Lib.hid ho
        clear ho
        go_wp2_with fail
        refine (read_any k (HD.out.step HB.out) (by unfold I64; omega)).mono ?_
        rintro e w1 ⟨rfl, hb1⟩
        rw [read_on HO.out (by omega) (by have := HK.out; omega)]
        have HB1 := Lib.hid (chain HB.out hb1)
        have HR1 := Lib.hid (heap_step HR.out hb1)
        have HT1 := Lib.hid (heap_step HT.out hb1)
        have HSZ := Lib.hid (HZ.out k)
        have HBS := Lib.hid (show d.best (k + 1) = if (getR (d.read k).1).2 = 0 ∧ (d.best k).gen < (getR (d.read k).1).1.gen then (getR (d.read k).1).1 else d.best k from rfl)
        have HGR := Lib.hid (show getV (d.read k).1 = .tuple #[(getR (d.read k).1).1.val, .int .i64 (getR (d.read k).1).2] from rfl)
        obtain ⟨b, hb⟩ : ∃ b, b = (d.read k).1 := ⟨_, rfl⟩
        rw [← hb] at HSZ HBS HGR ⊢
        clear hb1 hb
        go_wp2_with fail
        refine (get_any b _ (by have := HSZ.out; omega)).mono ?_
        rintro e w2 ⟨rfl, hb2⟩
        rw [HGR.out]
        obtain ⟨R, E, hRE⟩ : ∃ R E, getR b = (R, E) := ⟨_, _, rfl⟩
        rw [hRE] at HBS ⊢
        dsimp only [SV.val] at HBS ⊢
        have HB2 := Lib.hid (chain HB1.out hb2)
        have HR2 := Lib.hid (heap_step HR1.out hb2)
        have hT2 := heap_step HT1.out hb2
        have HT2 := Lib.hid hT2
        obtain ⟨c0, c1, c2⟩ := cells3 hT2
        have f0 := frozen_row (o := 0) hT2
        have f1 := frozen_row (o := 1) hT2
        have f2 := frozen_row (o := 2) hT2
        have hs2 := heap_lt hT2
        clear hb2 hT2 hRE
        by_cases hq : E = 0 ∧ (d.best k).gen < R.gen
        · have HQ := Lib.hid (show d.best (k + 1) = R by rw [HBS.out, if_pos hq])
          obtain ⟨rfl, hq⟩ := hq
          go_wp2
          go_roundw
          case rel => exact ⟨k + 1, by omega, by go_num, Lib.hid (heap_step (by rw [set_heap_other _ (by simp), set_heap_other _ (by simp), set_heap_other _ (by simp)]; exact HR2.out) (bel_new _ _)), Lib.hid (by rw [HQ.out]; exact heap_step (set3 HT2.out) (bel_new _ _)), Lib.hid (chain (set3_bel HB2.out (Nat.le_succ _)) (bel_new _ _)), Lib.hid (fun _ => HO.out)⟩
          case measure => simp [intOf]; omega
        · have HQ := Lib.hid (show d.best (k + 1) = d.best k by rw [HBS.out, if_neg hq])
          by_cases he : E = 0
          · subst he
            have hq' : ¬ (d.best k).gen < R.gen := fun h => hq ⟨rfl, h⟩
            clear hq
            go_wp2
            go_roundw
            case rel => exact ⟨k + 1, by omega, by go_num, Lib.hid (heap_step HR2.out (bel_new _ _)), Lib.hid (by rw [HQ.out]; exact heap_step HT2.out (bel_new _ _)), Lib.hid (chain HB2.out (bel_new _ _)), Lib.hid (fun _ => HO.out)⟩
            case measure => simp [intOf]; omega
          · have he' : (E == 0) = false := by simpa using he
            clear hq he
            go_wp2
            go_roundw
            case rel => exact ⟨k + 1, by omega, by go_num, Lib.hid (heap_step HR2.out (bel_new _ _)), Lib.hid (by rw [HQ.out]; exact heap_step HT2.out (bel_new _ _)), Lib.hid (chain HB2.out (bel_new _ _)), Lib.hid (fun _ => HO.out)⟩
            case measure => simp [intOf]; omega
      · have ho' : d.on = false := by simpa using ho
        have HO := Lib.hid ho'
        have HV := Lib.hid (show d.srV = .tuple #[SV.zero.val, .int .i64 14] by unfold DV.srV DV.sr; rw [if_pos ho'])
        clear ho ho'
        go_wp2_with fail
        refine (read_any k (HD.out.step HB.out) (by unfold I64; omega)).mono ?_
        rintro e w1 ⟨rfl, hb1⟩
        rw [read_off HO.out]
        have hz := heap_step HR.out hb1
        have HB1 := Lib.hid (chain HB.out hb1)
        have HR1 := Lib.hid hz
        obtain ⟨c0, c1, c2⟩ := cells3 hz
        have f0 := frozen_row (o := 0) hz
        have f1 := frozen_row (o := 1) hz
        have f2 := frozen_row (o := 2) hz
        clear hb1 hz
        go_wp2
        refine bodyPost_ret (v := .tuple #[_, .int .i64 14]) (results_row_tmp Try.results18 _ _ w.heap.size 24 _ (0, 0) _ _ rfl rfl (set3 HR1.out) Try.underlying24 rfl (by kernel_rfl)) rfl ?_
        exact ⟨by rw [HV.out]; rfl, set3_bel HB1.out (Nat.le_refl _)⟩
    · have hk2 : k = 2 := by omega
      have HO := Lib.hid (HON.out hk2)
      have hT : d.best k = d.best 2 := by rw [hk2]
      rw [hT] at HT
      have HV1 := Lib.hid (fun (hh : (d.best 2).gen = 0 ∨ (d.best 2).blocks ≠ d.blocks) => show d.srV = .tuple #[SV.zero.val, .int .i64 28] by unfold DV.srV DV.sr; rw [if_neg (by rw [HO.out]; decide), if_pos hh])
      have HV2 := Lib.hid (fun (hh : ¬ ((d.best 2).gen = 0 ∨ (d.best 2).blocks ≠ d.blocks)) => show d.srV = .tuple #[(d.best 2).val, .int .i64 0] by unfold DV.srV DV.sr; rw [if_neg (by rw [HO.out]; decide), if_neg hh])
      obtain ⟨T, hTT⟩ : ∃ T, T = d.best 2 := ⟨_, rfl⟩
      rw [← hTT] at HT HV1 HV2
      clear hk2 hT hTT
      have hz := HR.out
      have ht := HT.out
      obtain ⟨c0, c1, c2⟩ := cells3 hz
      obtain ⟨e0, e1, e2⟩ := cells3 ht
      have f0 := frozen_row (o := 0) hz
      have f1 := frozen_row (o := 1) hz
      have f2 := frozen_row (o := 2) hz
      clear hz ht
      by_cases hg : T.gen = 0
      · have hg' : (T.gen == 0) = true := by simp [hg]
        have HVV := Lib.hid (HV1.out (.inl hg))
        clear HV1 HV2 hg
        go_wp2_with fail
        refine wp_region_inv (R := Blw) (S := (fun w' => (w'.heap[w.heap.size]? = some (.cells #[.int .u64 SV.zero.gen, .int .i64 SV.zero.blocks, .int .i64 SV.zero.bytes] 24) ∧ Below w.heap.size w w') ∧ w'.cell? ⟨w.heap.size + 1, 0, none⟩ = some (.int .u64 T.gen))) 10 (Spec.val ?_ :: Spec.val ?_ :: Spec.val ?_ :: Spec.val ?_ :: Spec.val ?_ :: Spec.val ?_ :: Spec.val ?_ :: Spec.val ?_ :: Spec.val ?_ :: Spec.val ?_ :: []) (by kernel_rfl) (by kernel_rfl) rfl (fun w1 w2 h hb => ⟨⟨heap_step h.1.1 hb, chain h.1.2 hb⟩, cell_step h.2 hb⟩) (⟨⟨HR.out, HB.out.drew⟩, e0⟩) ?hm1
        case' hm1 => skip
        refine inv_val (i := 0) (by kernel_rfl) rfl rfl (fun w1 hS hd K hK => ?_) ?_
        · (try dsimp only at hS); go_simp; exact hK.out _ _ (by simp only [Act.put, List.setIfInBounds_toArray, List.set_cons_zero, List.set_cons_succ, List.nil_append, List.cons_append]; rfl) (Below.refl _ _)
        simp only [Act.put, List.setIfInBounds_toArray, List.set_cons_zero, List.set_cons_succ, List.nil_append, List.cons_append]
        refine inv_val (i := 1) (by kernel_rfl) rfl rfl (fun w1 hS hd K hK => ?_) ?_
        · (try dsimp only at hS); go_simp; exact hK.out _ _ (by simp only [Act.put, List.setIfInBounds_toArray, List.set_cons_zero, List.set_cons_succ, List.nil_append, List.cons_append]; rfl) (Below.refl _ _)
        simp only [Act.put, List.setIfInBounds_toArray, List.set_cons_zero, List.set_cons_succ, List.nil_append, List.cons_append]
        refine inv_val (i := 2) (by kernel_rfl) rfl rfl (fun w1 hS hd K hK => ?_) ?_
        · (try dsimp only at hS); go_simp; exact hK.out _ _ (by simp only [Act.put, List.setIfInBounds_toArray, List.set_cons_zero, List.set_cons_succ, List.nil_append, List.cons_append]; rfl) (Below.refl _ _)
        simp only [Act.put, List.setIfInBounds_toArray, List.set_cons_zero, List.set_cons_succ, List.nil_append, List.cons_append]
        refine inv_val (i := 3) (by kernel_rfl) rfl rfl (fun w1 hS hd K hK => ?_) ?_
        · (try dsimp only at hS); go_simp; exact hK.out _ _ (by simp only [Act.put, List.setIfInBounds_toArray, List.set_cons_zero, List.set_cons_succ, List.nil_append, List.cons_append]; rfl) (Below.refl _ _)
        simp only [Act.put, List.setIfInBounds_toArray, List.set_cons_zero, List.set_cons_succ, List.nil_append, List.cons_append]
        refine inv_val (i := 4) (by kernel_rfl) rfl rfl (fun w1 hS hd K hK => ?_) ?_
        · rw [if_neg (by simp [Region.wanted, yielded])]; exact hK.out _ _ (by rfl) (Below.refl _ _)
        simp only [Act.put, List.setIfInBounds_toArray, List.set_cons_zero, List.set_cons_succ, List.nil_append, List.cons_append]
        refine inv_val (i := 5) (by kernel_rfl) rfl rfl (fun w1 hS hd K hK => ?_) ?_
        · rw [if_neg (by simp [Region.wanted, yielded])]; exact hK.out _ _ (by rfl) (Below.refl _ _)
        simp only [Act.put, List.setIfInBounds_toArray, List.set_cons_zero, List.set_cons_succ, List.nil_append, List.cons_append]
        refine inv_val (i := 6) (by kernel_rfl) rfl rfl (fun w1 hS hd K hK => ?_) ?_
        · rw [if_neg (by simp [Region.wanted, yielded])]; exact hK.out _ _ (by rfl) (Below.refl _ _)
        simp only [Act.put, List.setIfInBounds_toArray, List.set_cons_zero, List.set_cons_succ, List.nil_append, List.cons_append]
        refine inv_val (i := 7) (by kernel_rfl) rfl rfl (fun w1 hS hd K hK => ?_) ?_
        · rw [if_neg (by simp [Region.wanted, yielded])]; exact hK.out _ _ (by rfl) (Below.refl _ _)
        simp only [Act.put, List.setIfInBounds_toArray, List.set_cons_zero, List.set_cons_succ, List.nil_append, List.cons_append]
        refine inv_val (i := 8) (by kernel_rfl) rfl rfl (fun w1 hS hd K hK => ?_) ?_
        · rw [if_neg (by simp [Region.wanted, yielded])]; exact hK.out _ _ (by rfl) (Below.refl _ _)
        simp only [Act.put, List.setIfInBounds_toArray, List.set_cons_zero, List.set_cons_succ, List.nil_append, List.cons_append]
        refine inv_val (i := 9) (by kernel_rfl) rfl rfl (fun w1 hS hd K hK => ?_) ?_
        · (try dsimp only at hS); go_simp; exact hK.out _ _ (by simp only [Act.put, List.setIfInBounds_toArray, List.set_cons_zero, List.set_cons_succ, List.nil_append, List.cons_append]; rfl) (Below.refl _ _)
        simp only [Act.put, List.setIfInBounds_toArray, List.set_cons_zero, List.set_cons_succ, List.nil_append, List.cons_append]
        refine inv_done (by kernel_rfl) (fun w6 hS hd => ?_)
        have HB6 := Lib.hid hS.1.2
        have HR6 := Lib.hid hS.1.1
        have hz := hS.1.1
        obtain ⟨c0, c1, c2⟩ := cells3 hz
        have f0 := frozen_row (o := 0) hz
        have f1 := frozen_row (o := 1) hz
        have f2 := frozen_row (o := 2) hz
        clear hS hd hz
        go_wp2
        refine bodyPost_ret (v := .tuple #[_, .int .i64 28]) (results_row_tmp Try.results18 _ _ w.heap.size 24 _ (0, 0) _ _ rfl rfl (set3 HR6.out) Try.underlying24 rfl (by kernel_rfl)) rfl ?_
        exact ⟨by rw [HVV.out]; rfl, set3_bel HB6.out (Nat.le_refl _)⟩
      · have hg' : (T.gen == 0) = false := by simp [hg]
        by_cases hbk : T.blocks = d.blocks
        · have HVV := Lib.hid (HV2.out (by simp [hg, hbk]))
          have HBK := Lib.hid hbk
          have hbk' : (T.blocks != d.blocks) = false := by simp [hbk]
          clear HV1 HV2 hg hbk
          go_wp2_with fail
          refine wp_region_inv (R := Blw) (S := (fun w' => (w'.heap[w.heap.size]? = some (.cells #[.int .u64 SV.zero.gen, .int .i64 SV.zero.blocks, .int .i64 SV.zero.bytes] 24) ∧ w'.heap[w.heap.size + 1]? = some (.cells #[.int .u64 T.gen, .int .i64 T.blocks, .int .i64 T.bytes] 24) ∧ Below w.heap.size w w') ∧ w'.cell? ⟨w.heap.size + 1, 0, none⟩ = some (.int .u64 T.gen) ∧ w'.cell? ⟨w.heap.size + 1, 1, none⟩ = some (.int .i64 T.blocks))) 10 (Spec.val ?_ :: Spec.val ?_ :: Spec.val ?_ :: Spec.val ?_ :: Spec.val ?_ :: Spec.val ?_ :: Spec.val ?_ :: Spec.val ?_ :: Spec.val ?_ :: Spec.val ?_ :: []) (by kernel_rfl) (by kernel_rfl) rfl (fun w1 w2 h hb => ⟨⟨heap_step h.1.1 hb, heap_step h.1.2.1 hb, chain h.1.2.2 hb⟩, cell_step h.2.1 hb, cell_step h.2.2 hb⟩) (⟨⟨HR.out, HT.out, HB.out.drew⟩, e0, e1⟩) ?hm2
          case' hm2 => skip
          refine inv_val (i := 0) (by kernel_rfl) rfl rfl (fun w1 hS hd K hK => ?_) ?_
          · (try dsimp only at hS); go_simp; exact hK.out _ _ (by simp only [Act.put, List.setIfInBounds_toArray, List.set_cons_zero, List.set_cons_succ, List.nil_append, List.cons_append]; rfl) (Below.refl _ _)
          simp only [Act.put, List.setIfInBounds_toArray, List.set_cons_zero, List.set_cons_succ, List.nil_append, List.cons_append]
          refine inv_val (i := 1) (by kernel_rfl) rfl rfl (fun w1 hS hd K hK => ?_) ?_
          · (try dsimp only at hS); go_simp; exact hK.out _ _ (by simp only [Act.put, List.setIfInBounds_toArray, List.set_cons_zero, List.set_cons_succ, List.nil_append, List.cons_append]; rfl) (Below.refl _ _)
          simp only [Act.put, List.setIfInBounds_toArray, List.set_cons_zero, List.set_cons_succ, List.nil_append, List.cons_append]
          refine inv_val (i := 2) (by kernel_rfl) rfl rfl (fun w1 hS hd K hK => ?_) ?_
          · (try dsimp only at hS); go_simp; exact hK.out _ _ (by simp only [Act.put, List.setIfInBounds_toArray, List.set_cons_zero, List.set_cons_succ, List.nil_append, List.cons_append]; rfl) (Below.refl _ _)
          simp only [Act.put, List.setIfInBounds_toArray, List.set_cons_zero, List.set_cons_succ, List.nil_append, List.cons_append]
          refine inv_val (i := 3) (by kernel_rfl) rfl rfl (fun w1 hS hd K hK => ?_) ?_
          · (try dsimp only at hS); go_simp; exact hK.out _ _ (by simp only [Act.put, List.setIfInBounds_toArray, List.set_cons_zero, List.set_cons_succ, List.nil_append, List.cons_append]; rfl) (Below.refl _ _)
          simp only [Act.put, List.setIfInBounds_toArray, List.set_cons_zero, List.set_cons_succ, List.nil_append, List.cons_append]
          refine inv_val (i := 4) (by kernel_rfl) rfl rfl (fun w1 hS hd K hK => ?_) ?_
          · (try dsimp only at hS); go_simp; exact hK.out _ _ (by simp only [Act.put, List.setIfInBounds_toArray, List.set_cons_zero, List.set_cons_succ, List.nil_append, List.cons_append]; rfl) (Below.refl _ _)
          simp only [Act.put, List.setIfInBounds_toArray, List.set_cons_zero, List.set_cons_succ, List.nil_append, List.cons_append]
          refine inv_val (i := 5) (by kernel_rfl) rfl rfl (fun w1 hS hd K hK => ?_) ?_
          · (try dsimp only at hS); go_simp; exact hK.out _ _ (by simp only [Act.put, List.setIfInBounds_toArray, List.set_cons_zero, List.set_cons_succ, List.nil_append, List.cons_append]; rfl) (Below.refl _ _)
          simp only [Act.put, List.setIfInBounds_toArray, List.set_cons_zero, List.set_cons_succ, List.nil_append, List.cons_append]
          refine inv_val (i := 6) (by kernel_rfl) rfl rfl (fun w1 hS hd K hK => ?_) ?_
          · (try dsimp only at hS); go_simp; exact hK.out _ _ (by simp only [Act.put, List.setIfInBounds_toArray, List.set_cons_zero, List.set_cons_succ, List.nil_append, List.cons_append]; rfl) (Below.refl _ _)
          simp only [Act.put, List.setIfInBounds_toArray, List.set_cons_zero, List.set_cons_succ, List.nil_append, List.cons_append]
          refine inv_val (i := 7) (by kernel_rfl) rfl rfl (fun w1 hS hd K hK => ?_) ?_
          · (try dsimp only at hS); go_simp; refine (blocks_any (HD.out.step hS.1.2.2)).mono ?_; rintro e w2 ⟨rfl, hb⟩; exact hK.out _ _ (by simp only [Act.put, List.setIfInBounds_toArray, List.set_cons_zero, List.set_cons_succ, List.nil_append, List.cons_append]; rfl) hb
          simp only [Act.put, List.setIfInBounds_toArray, List.set_cons_zero, List.set_cons_succ, List.nil_append, List.cons_append]
          refine inv_val (i := 8) (by kernel_rfl) rfl rfl (fun w1 hS hd K hK => ?_) ?_
          · (try dsimp only at hS); go_simp; exact hK.out _ _ (by simp only [Act.put, List.setIfInBounds_toArray, List.set_cons_zero, List.set_cons_succ, List.nil_append, List.cons_append]; rfl) (Below.refl _ _)
          simp only [Act.put, List.setIfInBounds_toArray, List.set_cons_zero, List.set_cons_succ, List.nil_append, List.cons_append]
          refine inv_val (i := 9) (by kernel_rfl) rfl rfl (fun w1 hS hd K hK => ?_) ?_
          · (try dsimp only at hS); go_simp; exact hK.out _ _ (by simp only [Act.put, List.setIfInBounds_toArray, List.set_cons_zero, List.set_cons_succ, List.nil_append, List.cons_append]; rfl) (Below.refl _ _)
          simp only [Act.put, List.setIfInBounds_toArray, List.set_cons_zero, List.set_cons_succ, List.nil_append, List.cons_append]
          refine inv_done (by kernel_rfl) (fun w6 hS hd => ?_)
          have HB6 := Lib.hid hS.1.2.2
          have HR6 := Lib.hid hS.1.1
          have hz := hS.1.1
          have ht := hS.1.2.1
          obtain ⟨c0, c1, c2⟩ := cells3 hz
          obtain ⟨e0, e1, e2⟩ := cells3 ht
          have f0 := frozen_row (o := 0) hz
          have f1 := frozen_row (o := 1) hz
          have f2 := frozen_row (o := 2) hz
          clear hS hd hz ht
          go_wp2
          refine bodyPost_ret (v := .tuple #[_, .int .i64 0]) (results_row_tmp Try.results18 _ _ w.heap.size 24 _ (0, 0) _ _ rfl rfl (set3 HR6.out) Try.underlying24 rfl (by kernel_rfl)) rfl ?_
          exact ⟨by rw [HVV.out]; rfl, set3_bel HB6.out (Nat.le_refl _)⟩
        · have HVV := Lib.hid (HV1.out (.inr hbk))
          have hbk' : (T.blocks != d.blocks) = true := by simp [hbk]
          clear HV1 HV2 hg hbk
          go_wp2_with fail
          refine wp_region_inv (R := Blw) (S := (fun w' => (w'.heap[w.heap.size]? = some (.cells #[.int .u64 SV.zero.gen, .int .i64 SV.zero.blocks, .int .i64 SV.zero.bytes] 24) ∧ w'.heap[w.heap.size + 1]? = some (.cells #[.int .u64 T.gen, .int .i64 T.blocks, .int .i64 T.bytes] 24) ∧ Below w.heap.size w w') ∧ w'.cell? ⟨w.heap.size + 1, 0, none⟩ = some (.int .u64 T.gen) ∧ w'.cell? ⟨w.heap.size + 1, 1, none⟩ = some (.int .i64 T.blocks))) 10 (Spec.val ?_ :: Spec.val ?_ :: Spec.val ?_ :: Spec.val ?_ :: Spec.val ?_ :: Spec.val ?_ :: Spec.val ?_ :: Spec.val ?_ :: Spec.val ?_ :: Spec.val ?_ :: []) (by kernel_rfl) (by kernel_rfl) rfl (fun w1 w2 h hb => ⟨⟨heap_step h.1.1 hb, heap_step h.1.2.1 hb, chain h.1.2.2 hb⟩, cell_step h.2.1 hb, cell_step h.2.2 hb⟩) (⟨⟨HR.out, HT.out, HB.out.drew⟩, e0, e1⟩) ?hm3
          case' hm3 => skip
          refine inv_val (i := 0) (by kernel_rfl) rfl rfl (fun w1 hS hd K hK => ?_) ?_
          · (try dsimp only at hS); go_simp; exact hK.out _ _ (by simp only [Act.put, List.setIfInBounds_toArray, List.set_cons_zero, List.set_cons_succ, List.nil_append, List.cons_append]; rfl) (Below.refl _ _)
          simp only [Act.put, List.setIfInBounds_toArray, List.set_cons_zero, List.set_cons_succ, List.nil_append, List.cons_append]
          refine inv_val (i := 1) (by kernel_rfl) rfl rfl (fun w1 hS hd K hK => ?_) ?_
          · (try dsimp only at hS); go_simp; exact hK.out _ _ (by simp only [Act.put, List.setIfInBounds_toArray, List.set_cons_zero, List.set_cons_succ, List.nil_append, List.cons_append]; rfl) (Below.refl _ _)
          simp only [Act.put, List.setIfInBounds_toArray, List.set_cons_zero, List.set_cons_succ, List.nil_append, List.cons_append]
          refine inv_val (i := 2) (by kernel_rfl) rfl rfl (fun w1 hS hd K hK => ?_) ?_
          · (try dsimp only at hS); go_simp; exact hK.out _ _ (by simp only [Act.put, List.setIfInBounds_toArray, List.set_cons_zero, List.set_cons_succ, List.nil_append, List.cons_append]; rfl) (Below.refl _ _)
          simp only [Act.put, List.setIfInBounds_toArray, List.set_cons_zero, List.set_cons_succ, List.nil_append, List.cons_append]
          refine inv_val (i := 3) (by kernel_rfl) rfl rfl (fun w1 hS hd K hK => ?_) ?_
          · (try dsimp only at hS); go_simp; exact hK.out _ _ (by simp only [Act.put, List.setIfInBounds_toArray, List.set_cons_zero, List.set_cons_succ, List.nil_append, List.cons_append]; rfl) (Below.refl _ _)
          simp only [Act.put, List.setIfInBounds_toArray, List.set_cons_zero, List.set_cons_succ, List.nil_append, List.cons_append]
          refine inv_val (i := 4) (by kernel_rfl) rfl rfl (fun w1 hS hd K hK => ?_) ?_
          · (try dsimp only at hS); go_simp; exact hK.out _ _ (by simp only [Act.put, List.setIfInBounds_toArray, List.set_cons_zero, List.set_cons_succ, List.nil_append, List.cons_append]; rfl) (Below.refl _ _)
          simp only [Act.put, List.setIfInBounds_toArray, List.set_cons_zero, List.set_cons_succ, List.nil_append, List.cons_append]
          refine inv_val (i := 5) (by kernel_rfl) rfl rfl (fun w1 hS hd K hK => ?_) ?_
          · (try dsimp only at hS); go_simp; exact hK.out _ _ (by simp only [Act.put, List.setIfInBounds_toArray, List.set_cons_zero, List.set_cons_succ, List.nil_append, List.cons_append]; rfl) (Below.refl _ _)
          simp only [Act.put, List.setIfInBounds_toArray, List.set_cons_zero, List.set_cons_succ, List.nil_append, List.cons_append]
          refine inv_val (i := 6) (by kernel_rfl) rfl rfl (fun w1 hS hd K hK => ?_) ?_
          · (try dsimp only at hS); go_simp; exact hK.out _ _ (by simp only [Act.put, List.setIfInBounds_toArray, List.set_cons_zero, List.set_cons_succ, List.nil_append, List.cons_append]; rfl) (Below.refl _ _)
          simp only [Act.put, List.setIfInBounds_toArray, List.set_cons_zero, List.set_cons_succ, List.nil_append, List.cons_append]
          refine inv_val (i := 7) (by kernel_rfl) rfl rfl (fun w1 hS hd K hK => ?_) ?_
          · (try dsimp only at hS); go_simp; refine (blocks_any (HD.out.step hS.1.2.2)).mono ?_; rintro e w2 ⟨rfl, hb⟩; exact hK.out _ _ (by simp only [Act.put, List.setIfInBounds_toArray, List.set_cons_zero, List.set_cons_succ, List.nil_append, List.cons_append]; rfl) hb
          simp only [Act.put, List.setIfInBounds_toArray, List.set_cons_zero, List.set_cons_succ, List.nil_append, List.cons_append]
          refine inv_val (i := 8) (by kernel_rfl) rfl rfl (fun w1 hS hd K hK => ?_) ?_
          · (try dsimp only at hS); go_simp; exact hK.out _ _ (by simp only [Act.put, List.setIfInBounds_toArray, List.set_cons_zero, List.set_cons_succ, List.nil_append, List.cons_append]; rfl) (Below.refl _ _)
          simp only [Act.put, List.setIfInBounds_toArray, List.set_cons_zero, List.set_cons_succ, List.nil_append, List.cons_append]
          refine inv_val (i := 9) (by kernel_rfl) rfl rfl (fun w1 hS hd K hK => ?_) ?_
          · (try dsimp only at hS); go_simp; exact hK.out _ _ (by simp only [Act.put, List.setIfInBounds_toArray, List.set_cons_zero, List.set_cons_succ, List.nil_append, List.cons_append]; rfl) (Below.refl _ _)
          simp only [Act.put, List.setIfInBounds_toArray, List.set_cons_zero, List.set_cons_succ, List.nil_append, List.cons_append]
          refine inv_done (by kernel_rfl) (fun w6 hS hd => ?_)
          have HB6 := Lib.hid hS.1.2.2
          have HR6 := Lib.hid hS.1.1
          have hz := hS.1.1
          obtain ⟨c0, c1, c2⟩ := cells3 hz
          have f0 := frozen_row (o := 0) hz
          have f1 := frozen_row (o := 1) hz
          have f2 := frozen_row (o := 2) hz
          clear hS hd hz
          go_wp2
          refine bodyPost_ret (v := .tuple #[_, .int .i64 28]) (results_row_tmp Try.results18 _ _ w.heap.size 24 _ (0, 0) _ _ rfl rfl (set3 HR6.out) Try.underlying24 rfl (by kernel_rfl)) rfl ?_
          exact ⟨by rw [HVV.out]; rfl, set3_bel HB6.out (Nat.le_refl _)⟩
end
end Go.Proofs.Ytabkeggcaacldaa
