/-
  The walk of the law AggTells.
-/
import Derived.Test.YtagpamgdgcghfaaAggRef2
import Derived.Test.YtagpamgdgcghfaaBookInts
namespace Go.Proofs.Ytagpamgdgcghfaa
open Go.RowKit
set_option linter.unusedVariables false
set_option linter.unusedSimpArgs false

theorem amerge_snoc2 (l : List AggV) (x : AggV) : amerge (l ++ [x]) = m2 (amerge l) x := by
  have hz : VZ (amerge l) := by
    induction l using snoc_ind with
    | h0 => exact .inr rfl
    | h1 l y ih =>
      rw [amerge_snoc]
      split
      · rename_i hy
        rcases ih with h | h
        · exact .inl (aboth_valid _ _ h hy)
        · rw [h, aboth_zero]; exact .inl hy
      · exact ih
  rw [amerge_snoc]
  unfold m2
  rcases hz with h | h
  · rw [h]; rfl
  · rw [h, zero_invalid, aboth_zero]; rfl
theorem all_amerge (l : List AggV) : l.foldl m2 AggV.zero = amerge l := by
  induction l using snoc_ind with
  | h0 => rfl
  | h1 l y ih => rw [amerge_snoc2, List.foldl_append, ih]; rfl
theorem aof_take2 (l : List Int) (k : Nat) (h : k < l.length) : aof (l.take (k + 1)) = m2 (aof (l.take k)) (aone (l.getD k 0)) := by rw [take_snoc h, aof_snoc2]

theorem put_any (A : AggV) (w : World) (h : A.ok) : Calls Try.prog 17 #[A.val] w (RetB w (RPutRes A)) := by
  unfold RPutRes
  cases hv : A.valid
  · exact put_none A w hv
  · exact put_some A w hv h
theorem gets_any (s : ByteArray) (hs : s.size ≤ 1000) : ∃ (R : AggV) (e : Int), (∀ w, Calls Try.prog 18 #[.string s] w (RetB w (.tuple #[R.val, .int .i64 e]))) ∧ (∀ w, Calls Try.prog 28 #[.string s] w (RetB w (.tuple #[R.val, .int .i64 e]))) := by
  by_cases h : s.size = 40
  · by_cases hv : (getAgg s.data.toList).valid = true
    · refine ⟨getAgg s.data.toList, 0, fun w => ?_, fun w => ?_⟩
      · have := get_long s w h; unfold getRes at this; rw [if_pos hv, if_pos hv] at this; exact this
      · have := rget_long s w h; unfold getRes at this; rw [if_pos hv, if_pos hv] at this; exact this
    · refine ⟨AggV.zero, 6, fun w => ?_, fun w => ?_⟩
      · have := get_long s w h; unfold getRes at this; rw [if_neg hv, if_neg hv] at this; exact this
      · have := rget_long s w h; unfold getRes at this; rw [if_neg hv, if_neg hv] at this; exact this
  · exact ⟨AggV.zero, 5, fun w => get_short s w h (by omega), fun w => rget_short s w h (by omega)⟩

/-- A box in the first block, and all else that was there. -/
def One5 (w : World) (A : AggV) (w' : World) : Prop := w'.heap[w.heap.size]? = some (.cells #[.int .i64 A.c, .int .i64 A.hi, .int .u64 A.lo, .int .i64 A.mn, .int .i64 A.mx] 26) ∧ Below w.heap.size w w'
theorem One5.step {w w1 w2 : World} {A : AggV} (h : One5 w A w1) (hb : Below w1.heap.size w1 w2) : One5 w A w2 := ⟨heap_step h.1 hb, chain h.2 hb⟩
/-- Two boxes, the lent list, and all else that was there. -/
structure Two5 (w : World) (F X : AggV) (b : Nat) (u : Value) (v : List Int) (w' : World) : Prop where
  f : w'.heap[w.heap.size]? = some (.cells #[.int .i64 F.c, .int .i64 F.hi, .int .u64 F.lo, .int .i64 F.mn, .int .i64 F.mx] 26)
  x : w'.heap[b]? = some (.cells #[.int .i64 X.c, .int .i64 X.hi, .int .u64 X.lo, .int .i64 X.mn, .int .i64 X.mx] 26)
  l : Lent w' u v
  bel : Below w.heap.size w w'
theorem Two5.step {w w1 w2 : World} {F X : AggV} {b : Nat} {u : Value} {v : List Int} (h : Two5 w F X b u v w1) (hb : Below w1.heap.size w1 w2) : Two5 w F X b u v w2 :=
  ⟨heap_step h.f hb, heap_step h.x hb, h.l.below hb, chain h.bel hb⟩

set_option maxRecDepth 100000 in
set_option maxHeartbeats 4000000 in
theorem walkAggTellsIn (v0 : Value) (v : List Int) (l0 : Value) (l : List AggV) (s : ByteArray) (w : World) (hv : IntsAt w v0 v) (hl : AggsAt w l0 l) (h1 : v.length ≤ 60) (h2 : l.length ≤ 60) (h3 : s.size ≤ 300) :
    Calls Try.prog 9 #[v0, l0, .string s] w (BoolPost w true) := by
  have HV := Lib.hid hv
  have HL := Lib.hid hl
  obtain ⟨va, vc, rfl, hI, hvlen, hvc⟩ := hv
  obtain ⟨la, lc, rfl, hJ, hllen, hlc⟩ := hl
  have HI := Lib.hid hI
  have HJ := Lib.hid hJ
  have HVC := Lib.hid hvc
  have HLC := Lib.hid hlc
  clear hI hJ hvc hlc
  go_enter Try.func9, Try.ntmps9
  go_wp2
  go_loopw [8] (fun i wr => ∃ (k : Nat), k ≤ v.length ∧ i = .int .i64 k ∧ Hid (One5 w (aof (v.take k)) wr)) (fun i _ => v.length - (intOf i).toNat)
  case atStart => exact ⟨0, Nat.zero_le _, rfl, Lib.hid ⟨heap_alloc_new w _, bel_new _ _⟩⟩
  case round =>
    obtain ⟨k, hk, rfl, HA⟩ := hrel
    by_cases hlt : k < v.length
    · obtain ⟨b, o, rfl, hbw, hcl⟩ := HVC.out (by intro h; simp [h] at hlt)
      have hx := (HA.out.2.cell (p := ⟨b, o + k, none⟩) hbw).trans (hcl k hlt)
      have HT := Lib.hid (aof_take2 v k hlt)
      have hxI := HI.out (v.getD k 0) (by simp [hlt])
      obtain ⟨x, hxe⟩ : ∃ x, x = v.getD k 0 := ⟨_, rfl⟩
      obtain ⟨A, hA⟩ : ∃ A, A = aof (v.take k) := ⟨_, rfl⟩
      have hAok : A.ok := by rw [hA]; exact aof_ok _ (fun y hy => HI.out y (List.mem_of_mem_take hy))
      have HXI := Lib.hid hxI
      have HAOK := Lib.hid hAok
      rw [← hxe] at hx HT HXI
      rw [← hA] at HA HT
      have HX := Lib.hid hx
      clear hxe hA hx hcl hxI hAok
      go_wp2_with fail
      refine wp_region_inv (S := (fun w' => One5 w A w' ∧ (w'.cell? ⟨w.heap.size, 0, none⟩ = some (.int .i64 A.c) ∧ w'.cell? ⟨w.heap.size, 1, none⟩ = some (.int .i64 A.hi) ∧ w'.cell? ⟨w.heap.size, 2, none⟩ = some (.int .u64 A.lo) ∧ w'.cell? ⟨w.heap.size, 3, none⟩ = some (.int .i64 A.mn) ∧ w'.cell? ⟨w.heap.size, 4, none⟩ = some (.int .i64 A.mx)) ∧ w'.cell? ⟨b, o + k, none⟩ = some (.int .i64 x))) 7 (Spec.val ?_ :: Spec.val ?_ :: Spec.val ?_ :: Spec.val ?_ :: Spec.val ?_ :: Spec.val ?_ :: Spec.val ?_ :: []) (by kernel_rfl) (by kernel_rfl) rfl (fun w1 w2 h hb => ⟨h.1.step hb, agg_cells (h.1.step hb).1, (hb.cell (p := ⟨b, o + k, none⟩) (Nat.lt_of_lt_of_le hbw h.1.2.size)).trans h.2.2⟩) (⟨⟨HA.out.1, HA.out.2.drew⟩, agg_cells HA.out.1, HX.out⟩) ?hm1
      case' hm1 => skip
      -- op 0: t44 := Op.load 26 (tmp 7)
      refine inv_val (i := 0) (by kernel_rfl) rfl rfl (fun w1 hS hd K hK => ?_) ?_
      · (try dsimp only at hS)
        go_simp
        exact hK.out _ _ (by simp only [Act.put, List.setIfInBounds_toArray, List.set_cons_zero, List.set_cons_succ, List.nil_append, List.cons_append]; rfl) (Below.refl _ _)
      simp only [Act.put, List.setIfInBounds_toArray, List.set_cons_zero, List.set_cons_succ, List.nil_append, List.cons_append]
      -- op 1: t45 := Op.move (tmp 0)
      refine inv_val (i := 1) (by kernel_rfl) rfl rfl (fun w1 hS hd K hK => ?_) ?_
      · (try dsimp only at hS)
        go_simp
        exact hK.out _ _ (by simp only [Act.put, List.setIfInBounds_toArray, List.set_cons_zero, List.set_cons_succ, List.nil_append, List.cons_append]; rfl) (Below.refl _ _)
      simp only [Act.put, List.setIfInBounds_toArray, List.set_cons_zero, List.set_cons_succ, List.nil_append, List.cons_append]
      -- op 2: t46 := Op.move (tmp 8)
      refine inv_val (i := 2) (by kernel_rfl) rfl rfl (fun w1 hS hd K hK => ?_) ?_
      · (try dsimp only at hS)
        go_simp
        exact hK.out _ _ (by simp only [Act.put, List.setIfInBounds_toArray, List.set_cons_zero, List.set_cons_succ, List.nil_append, List.cons_append]; rfl) (Below.refl _ _)
      simp only [Act.put, List.setIfInBounds_toArray, List.set_cons_zero, List.set_cons_succ, List.nil_append, List.cons_append]
      -- op 3: t47 := Op.indexAddr 22 (tmp 45) (tmp 46)
      refine inv_val (i := 3) (by kernel_rfl) rfl rfl (fun w1 hS hd K hK => ?_) ?_
      · (try dsimp only at hS)
        go_simp
        exact hK.out _ _ (by simp only [Act.put, List.setIfInBounds_toArray, List.set_cons_zero, List.set_cons_succ, List.nil_append, List.cons_append]; rfl) (Below.refl _ _)
      simp only [Act.put, List.setIfInBounds_toArray, List.set_cons_zero, List.set_cons_succ, List.nil_append, List.cons_append]
      -- op 4: t48 := Op.load 3 (tmp 47)
      refine inv_val (i := 4) (by kernel_rfl) rfl rfl (fun w1 hS hd K hK => ?_) ?_
      · (try dsimp only at hS)
        go_simp
        exact hK.out _ _ (by simp only [Act.put, List.setIfInBounds_toArray, List.set_cons_zero, List.set_cons_succ, List.nil_append, List.cons_append]; rfl) (Below.refl _ _)
      simp only [Act.put, List.setIfInBounds_toArray, List.set_cons_zero, List.set_cons_succ, List.nil_append, List.cons_append]
      -- op 5: t49 := Op.call { callee := Callee.value (func 20), args := #[
      refine inv_val (i := 5) (by kernel_rfl) rfl rfl (fun w1 hS hd K hK => ?_) ?_
      · (try dsimp only at hS)
        go_simp
        refine (rone_any x _ HXI.out).mono ?_; rintro e w2 ⟨rfl, hb⟩; simp only [AggV.val]; exact hK.out _ _ (by simp only [Act.put, List.setIfInBounds_toArray, List.set_cons_zero, List.set_cons_succ, List.nil_append, List.cons_append]; rfl) hb
      simp only [Act.put, List.setIfInBounds_toArray, List.set_cons_zero, List.set_cons_succ, List.nil_append, List.cons_append]
      -- op 6: t50 := Op.call { callee := Callee.value (func 19), args := #[
      refine inv_val (i := 6) (by kernel_rfl) rfl rfl (fun w1 hS hd K hK => ?_) ?_
      · (try dsimp only at hS)
        go_simp
        refine (rmerge_any A (aone x) _ HAOK.out (aone_ok x HXI.out)).mono ?_; rintro e w2 ⟨rfl, hb⟩; rw [← HT.out]; simp only [AggV.val]; exact hK.out _ _ (by simp only [Act.put, List.setIfInBounds_toArray, List.set_cons_zero, List.set_cons_succ, List.nil_append, List.cons_append]; rfl) hb
      simp only [Act.put, List.setIfInBounds_toArray, List.set_cons_zero, List.set_cons_succ, List.nil_append, List.cons_append]
      refine inv_tail1 (by kernel_rfl) rfl (fun w2 hS hd => ?_)
      have hB2 := hS.1.1
      obtain ⟨d0, d1, d2, d3, d4⟩ := agg_cells hB2
      have f0 := frozen_row (o := 0) hB2
      have f1 := frozen_row (o := 1) hB2
      have f2 := frozen_row (o := 2) hB2
      have f3 := frozen_row (o := 3) hB2
      have f4 := frozen_row (o := 4) hB2
      have HR' := Lib.hid (show One5 w _ _ from ⟨agg_set (aof (v.take (k + 1))) hB2, agg_set_bel (b := w.heap.size) (aof (v.take (k + 1))) hS.1.2 (Nat.le_refl _)⟩)
      clear hS hd hB2
      go_wp2
      go_roundw
      case rel => exact ⟨k + 1, by omega, by go_num, HR'⟩
      case measure => simp [intOf]; omega
    · have hkl : k = v.length := by omega
      subst hkl
      have hA := HA.out
      rw [List.take_length] at hA
      obtain ⟨F, hF⟩ : ∃ F, F = aof v := ⟨_, rfl⟩
      rw [← hF] at hA
      have HF := Lib.hid hF
      have HFA := Lib.hid hA
      clear hA hF hlt
      go_wp2_with fail
      refine (lent_ints _ v _ (HV.out.below HFA.out.2) (by omega)).mono ?_
      rintro e w1 ⟨u, rfl, hu, hb1⟩
      have HU := Lib.hid hu
      have HFA1 := Lib.hid (HFA.out.step hb1)
      clear hu hb1
      go_wp2_with fail
      refine (all_any _ l _ (HL.out.below HFA1.out.2)).mono ?_
      rintro e w2 ⟨rfl, hb2⟩
      rw [all_amerge]
      obtain ⟨X, hX⟩ : ∃ X, X = amerge l := ⟨_, rfl⟩
      rw [← hX]
      have HX := Lib.hid hX
      have HT2 := Lib.hid (show Two5 w F X w2.heap.size u v (w2.alloc (.cells #[.int .i64 X.c, .int .i64 X.hi, .int .u64 X.lo, .int .i64 X.mn, .int .i64 X.mx] 26)) from ⟨heap_step (HFA1.out.step hb2).1 (bel_new _ _), heap_alloc_new _ _, (HU.out.below hb2).below (bel_new _ _), chain (HFA1.out.step hb2).2 (bel_new _ _)⟩)
      clear hX hb2
      simp only [AggV.val]
      go_wp2_with fail
      have hXok := Lib.hid (show X.ok by rw [HX.out]; exact amerge_ok _ HJ.out)
      have hFok := Lib.hid (show F.ok by rw [HF.out]; exact aof_ok _ HI.out)
      refine wp_region_inv (S := (fun w' => Two5 w F X w2.heap.size u v w' ∧ (w'.cell? ⟨w.heap.size, 0, none⟩ = some (.int .i64 F.c) ∧ w'.cell? ⟨w.heap.size, 1, none⟩ = some (.int .i64 F.hi) ∧ w'.cell? ⟨w.heap.size, 2, none⟩ = some (.int .u64 F.lo) ∧ w'.cell? ⟨w.heap.size, 3, none⟩ = some (.int .i64 F.mn) ∧ w'.cell? ⟨w.heap.size, 4, none⟩ = some (.int .i64 F.mx)) ∧ (w'.cell? ⟨w2.heap.size, 0, none⟩ = some (.int .i64 X.c) ∧ w'.cell? ⟨w2.heap.size, 1, none⟩ = some (.int .i64 X.hi) ∧ w'.cell? ⟨w2.heap.size, 2, none⟩ = some (.int .u64 X.lo) ∧ w'.cell? ⟨w2.heap.size, 3, none⟩ = some (.int .i64 X.mn) ∧ w'.cell? ⟨w2.heap.size, 4, none⟩ = some (.int .i64 X.mx)))) 25 (Spec.val ?_ :: Spec.val ?_ :: Spec.val ?_ :: Spec.val ?_ :: Spec.val ?_ :: Spec.val ?_ :: Spec.val ?_ :: Spec.val ?_ :: Spec.val ?_ :: Spec.val ?_ :: Spec.val ?_ :: Spec.val ?_ :: Spec.val ?_ :: Spec.val ?_ :: Spec.val ?_ :: Spec.val ?_ :: Spec.val ?_ :: Spec.val ?_ :: Spec.val ?_ :: Spec.val ?_ :: Spec.val ?_ :: Spec.val ?_ :: Spec.val ?_ :: Spec.val ?_ :: Spec.val ?_ :: []) (by kernel_rfl) (by kernel_rfl) rfl (fun w1 w2 h hb => ⟨h.1.step hb, agg_cells (h.1.step hb).f, agg_cells (h.1.step hb).x⟩) (⟨HT2.out.step (Below.refl _ _).drew, agg_cells HT2.out.f, agg_cells HT2.out.x⟩) ?hm2
      case' hm2 => skip
      -- op 0: t55 := Op.move (tmp 9)
      refine inv_val (i := 0) (by kernel_rfl) rfl rfl (fun w1 hS hd K hK => ?_) ?_
      · (try dsimp only at hS)
        go_simp
        exact hK.out _ _ (by simp only [Act.put, List.setIfInBounds_toArray, List.set_cons_zero, List.set_cons_succ, List.nil_append, List.cons_append]; rfl) (Below.refl _ _)
      simp only [Act.put, List.setIfInBounds_toArray, List.set_cons_zero, List.set_cons_succ, List.nil_append, List.cons_append]
      -- op 1: t56 := Op.call { callee := Callee.value (func 11), args := #[
      refine inv_val (i := 1) (by kernel_rfl) rfl rfl (fun w1 hS hd K hK => ?_) ?_
      · (try dsimp only at hS)
        go_simp
        refine (of_any _ v _ (hS.1.l.ints HI.out)).mono ?_; rintro e w2 ⟨rfl, hb⟩; rw [← HF.out]; simp only [AggV.val]; exact hK.out _ _ (by simp only [Act.put, List.setIfInBounds_toArray, List.set_cons_zero, List.set_cons_succ, List.nil_append, List.cons_append]; rfl) hb
      simp only [Act.put, List.setIfInBounds_toArray, List.set_cons_zero, List.set_cons_succ, List.nil_append, List.cons_append]
      -- op 2: t57 := Op.load 26 (tmp 7)
      refine inv_val (i := 2) (by kernel_rfl) rfl rfl (fun w1 hS hd K hK => ?_) ?_
      · (try dsimp only at hS)
        go_simp
        exact hK.out _ _ (by simp only [Act.put, List.setIfInBounds_toArray, List.set_cons_zero, List.set_cons_succ, List.nil_append, List.cons_append]; rfl) (Below.refl _ _)
      simp only [Act.put, List.setIfInBounds_toArray, List.set_cons_zero, List.set_cons_succ, List.nil_append, List.cons_append]
      -- op 3: t58 := Op.binOp BinOp.neq 26 (tmp 56) (tmp 57) 26
      refine inv_val (i := 3) (by kernel_rfl) rfl rfl (fun w1 hS hd K hK => ?_) ?_
      · (try dsimp only at hS)
        go_simp
        exact hK.out _ _ (by simp only [Act.put, List.setIfInBounds_toArray, List.set_cons_zero, List.set_cons_succ, List.nil_append, List.cons_append]; rfl) (Below.refl _ _)
      simp only [Act.put, List.setIfInBounds_toArray, List.set_cons_zero, List.set_cons_succ, List.nil_append, List.cons_append]
      -- op 4: t59 := Op.move (tmp 58)
      refine inv_val (i := 4) (by kernel_rfl) rfl rfl (fun w1 hS hd K hK => ?_) ?_
      · (try dsimp only at hS)
        go_simp
        exact hK.out _ _ (by simp only [Act.put, List.setIfInBounds_toArray, List.set_cons_zero, List.set_cons_succ, List.nil_append, List.cons_append]; rfl) (Below.refl _ _)
      simp only [Act.put, List.setIfInBounds_toArray, List.set_cons_zero, List.set_cons_succ, List.nil_append, List.cons_append]
      -- op 5: t60 := Op.move (tmp 1)
      refine inv_val (i := 5) (by kernel_rfl) rfl rfl (fun w1 hS hd K hK => ?_) ?_
      · (try dsimp only at hS)
        go_simp
        exact hK.out _ _ (by simp only [Act.put, List.setIfInBounds_toArray, List.set_cons_zero, List.set_cons_succ, List.nil_append, List.cons_append]; rfl) (Below.refl _ _)
      simp only [Act.put, List.setIfInBounds_toArray, List.set_cons_zero, List.set_cons_succ, List.nil_append, List.cons_append]
      -- op 6: t61 := Op.call { callee := Callee.value (func 13), args := #[
      refine inv_val (i := 6) (by kernel_rfl) rfl rfl (fun w1 hS hd K hK => ?_) ?_
      · (try dsimp only at hS)
        go_simp
        refine (merge_any _ l _ (HL.out.below hS.1.bel)).mono ?_; rintro e w2 ⟨rfl, hb⟩; rw [← HX.out]; simp only [AggV.val]; exact hK.out _ _ (by simp only [Act.put, List.setIfInBounds_toArray, List.set_cons_zero, List.set_cons_succ, List.nil_append, List.cons_append]; rfl) hb
      simp only [Act.put, List.setIfInBounds_toArray, List.set_cons_zero, List.set_cons_succ, List.nil_append, List.cons_append]
      -- op 7: t62 := Op.load 26 (tmp 10)
      refine inv_val (i := 7) (by kernel_rfl) rfl rfl (fun w1 hS hd K hK => ?_) ?_
      · (try dsimp only at hS)
        go_simp
        exact hK.out _ _ (by simp only [Act.put, List.setIfInBounds_toArray, List.set_cons_zero, List.set_cons_succ, List.nil_append, List.cons_append]; rfl) (Below.refl _ _)
      simp only [Act.put, List.setIfInBounds_toArray, List.set_cons_zero, List.set_cons_succ, List.nil_append, List.cons_append]
      -- op 8: t63 := Op.binOp BinOp.neq 26 (tmp 61) (tmp 62) 26
      refine inv_val (i := 8) (by kernel_rfl) rfl rfl (fun w1 hS hd K hK => ?_) ?_
      · (try dsimp only at hS)
        go_simp
        exact hK.out _ _ (by simp only [Act.put, List.setIfInBounds_toArray, List.set_cons_zero, List.set_cons_succ, List.nil_append, List.cons_append]; rfl) (Below.refl _ _)
      simp only [Act.put, List.setIfInBounds_toArray, List.set_cons_zero, List.set_cons_succ, List.nil_append, List.cons_append]
      -- op 9: t64 := Op.pick (tmp 59) (const (Value.bool true)) (tm
      refine inv_val (i := 9) (by kernel_rfl) rfl rfl (fun w1 hS hd K hK => ?_) ?_
      · (try dsimp only at hS)
        go_simp
        exact hK.out _ _ (by simp only [Act.put, List.setIfInBounds_toArray, List.set_cons_zero, List.set_cons_succ, List.nil_append, List.cons_append]; rfl) (Below.refl _ _)
      simp only [Act.put, List.setIfInBounds_toArray, List.set_cons_zero, List.set_cons_succ, List.nil_append, List.cons_append]
      -- op 10: t65 := Op.move (tmp 64)
      refine inv_val (i := 10) (by kernel_rfl) rfl rfl (fun w1 hS hd K hK => ?_) ?_
      · (try dsimp only at hS)
        go_simp
        exact hK.out _ _ (by simp only [Act.put, List.setIfInBounds_toArray, List.set_cons_zero, List.set_cons_succ, List.nil_append, List.cons_append]; rfl) (Below.refl _ _)
      simp only [Act.put, List.setIfInBounds_toArray, List.set_cons_zero, List.set_cons_succ, List.nil_append, List.cons_append]
      -- op 11: t66 := Op.load 26 (tmp 10)
      refine inv_val (i := 11) (by kernel_rfl) rfl rfl (fun w1 hS hd K hK => ?_) ?_
      · (try dsimp only at hS)
        go_simp
        exact hK.out _ _ (by simp only [Act.put, List.setIfInBounds_toArray, List.set_cons_zero, List.set_cons_succ, List.nil_append, List.cons_append]; rfl) (Below.refl _ _)
      simp only [Act.put, List.setIfInBounds_toArray, List.set_cons_zero, List.set_cons_succ, List.nil_append, List.cons_append]
      -- op 12: t67 := Op.move (tmp 9)
      refine inv_val (i := 12) (by kernel_rfl) rfl rfl (fun w1 hS hd K hK => ?_) ?_
      · (try dsimp only at hS)
        go_simp
        exact hK.out _ _ (by simp only [Act.put, List.setIfInBounds_toArray, List.set_cons_zero, List.set_cons_succ, List.nil_append, List.cons_append]; rfl) (Below.refl _ _)
      simp only [Act.put, List.setIfInBounds_toArray, List.set_cons_zero, List.set_cons_succ, List.nil_append, List.cons_append]
      -- op 13: t68 := Op.call { callee := Callee.value (func 16), args := #[
      refine inv_val (i := 13) (by kernel_rfl) rfl rfl (fun w1 hS hd K hK => ?_) ?_
      · (try dsimp only at hS)
        go_simp
        refine (add_any X _ v _ hXok.out (hS.1.l.ints HI.out)).mono ?_; rintro e w2 ⟨rfl, hb⟩; rw [amerge_two, ← HF.out]; simp only [AggV.val]; exact hK.out _ _ (by simp only [Act.put, List.setIfInBounds_toArray, List.set_cons_zero, List.set_cons_succ, List.nil_append, List.cons_append]; rfl) hb
      simp only [Act.put, List.setIfInBounds_toArray, List.set_cons_zero, List.set_cons_succ, List.nil_append, List.cons_append]
      -- op 14: t69 := Op.load 26 (tmp 10)
      refine inv_val (i := 14) (by kernel_rfl) rfl rfl (fun w1 hS hd K hK => ?_) ?_
      · (try dsimp only at hS)
        go_simp
        exact hK.out _ _ (by simp only [Act.put, List.setIfInBounds_toArray, List.set_cons_zero, List.set_cons_succ, List.nil_append, List.cons_append]; rfl) (Below.refl _ _)
      simp only [Act.put, List.setIfInBounds_toArray, List.set_cons_zero, List.set_cons_succ, List.nil_append, List.cons_append]
      -- op 15: t70 := Op.load 26 (tmp 7)
      refine inv_val (i := 15) (by kernel_rfl) rfl rfl (fun w1 hS hd K hK => ?_) ?_
      · (try dsimp only at hS)
        go_simp
        exact hK.out _ _ (by simp only [Act.put, List.setIfInBounds_toArray, List.set_cons_zero, List.set_cons_succ, List.nil_append, List.cons_append]; rfl) (Below.refl _ _)
      simp only [Act.put, List.setIfInBounds_toArray, List.set_cons_zero, List.set_cons_succ, List.nil_append, List.cons_append]
      -- op 16: t71 := Op.call { callee := Callee.value (func 19), args := #[
      refine inv_val (i := 16) (by kernel_rfl) rfl rfl (fun w1 hS hd K hK => ?_) ?_
      · (try dsimp only at hS)
        go_simp
        refine (rmerge_any X F _ hXok.out hFok.out).mono ?_; rintro e w2 ⟨rfl, hb⟩; simp only [AggV.val]; exact hK.out _ _ (by simp only [Act.put, List.setIfInBounds_toArray, List.set_cons_zero, List.set_cons_succ, List.nil_append, List.cons_append]; rfl) hb
      simp only [Act.put, List.setIfInBounds_toArray, List.set_cons_zero, List.set_cons_succ, List.nil_append, List.cons_append]
      -- op 17: t72 := Op.binOp BinOp.neq 26 (tmp 68) (tmp 71) 26
      refine inv_val (i := 17) (by kernel_rfl) rfl rfl (fun w1 hS hd K hK => ?_) ?_
      · (try dsimp only at hS)
        go_simp
        exact hK.out _ _ (by simp only [Act.put, List.setIfInBounds_toArray, List.set_cons_zero, List.set_cons_succ, List.nil_append, List.cons_append]; rfl) (Below.refl _ _)
      simp only [Act.put, List.setIfInBounds_toArray, List.set_cons_zero, List.set_cons_succ, List.nil_append, List.cons_append]
      -- op 18: t73 := Op.pick (tmp 65) (const (Value.bool true)) (tm
      refine inv_val (i := 18) (by kernel_rfl) rfl rfl (fun w1 hS hd K hK => ?_) ?_
      · (try dsimp only at hS)
        go_simp
        exact hK.out _ _ (by simp only [Act.put, List.setIfInBounds_toArray, List.set_cons_zero, List.set_cons_succ, List.nil_append, List.cons_append]; rfl) (Below.refl _ _)
      simp only [Act.put, List.setIfInBounds_toArray, List.set_cons_zero, List.set_cons_succ, List.nil_append, List.cons_append]
      -- op 19: t74 := Op.move (tmp 73)
      refine inv_val (i := 19) (by kernel_rfl) rfl rfl (fun w1 hS hd K hK => ?_) ?_
      · (try dsimp only at hS)
        go_simp
        exact hK.out _ _ (by simp only [Act.put, List.setIfInBounds_toArray, List.set_cons_zero, List.set_cons_succ, List.nil_append, List.cons_append]; rfl) (Below.refl _ _)
      simp only [Act.put, List.setIfInBounds_toArray, List.set_cons_zero, List.set_cons_succ, List.nil_append, List.cons_append]
      -- op 20: t75 := Op.move (tmp 9)
      refine inv_val (i := 20) (by kernel_rfl) rfl rfl (fun w1 hS hd K hK => ?_) ?_
      · (try dsimp only at hS)
        go_simp
        exact hK.out _ _ (by simp only [Act.put, List.setIfInBounds_toArray, List.set_cons_zero, List.set_cons_succ, List.nil_append, List.cons_append]; rfl) (Below.refl _ _)
      simp only [Act.put, List.setIfInBounds_toArray, List.set_cons_zero, List.set_cons_succ, List.nil_append, List.cons_append]
      -- op 21: t76 := Op.move (tmp 0)
      refine inv_val (i := 21) (by kernel_rfl) rfl rfl (fun w1 hS hd K hK => ?_) ?_
      · (try dsimp only at hS)
        go_simp
        exact hK.out _ _ (by simp only [Act.put, List.setIfInBounds_toArray, List.set_cons_zero, List.set_cons_succ, List.nil_append, List.cons_append]; rfl) (Below.refl _ _)
      simp only [Act.put, List.setIfInBounds_toArray, List.set_cons_zero, List.set_cons_succ, List.nil_append, List.cons_append]
      -- op 22: t77 := Op.call { callee := Callee.value (func 23), args := #[
      refine inv_val (i := 22) (by kernel_rfl) rfl rfl (fun w1 hS hd K hK => ?_) ?_
      · (try dsimp only at hS)
        go_simp
        refine (stays_ints _ _ v _ hS.1.l (HV.out.below hS.1.bel) HI.out).mono ?_; rintro e w2 ⟨rfl, hb⟩; exact hK.out _ _ (by simp only [Act.put, List.setIfInBounds_toArray, List.set_cons_zero, List.set_cons_succ, List.nil_append, List.cons_append]; rfl) hb
      simp only [Act.put, List.setIfInBounds_toArray, List.set_cons_zero, List.set_cons_succ, List.nil_append, List.cons_append]
      -- op 23: t78 := Op.unOp UnOp.not 4 (tmp 77)
      refine inv_val (i := 23) (by kernel_rfl) rfl rfl (fun w1 hS hd K hK => ?_) ?_
      · (try dsimp only at hS)
        go_simp
        exact hK.out _ _ (by simp only [Act.put, List.setIfInBounds_toArray, List.set_cons_zero, List.set_cons_succ, List.nil_append, List.cons_append]; rfl) (Below.refl _ _)
      simp only [Act.put, List.setIfInBounds_toArray, List.set_cons_zero, List.set_cons_succ, List.nil_append, List.cons_append]
      -- op 24: t79 := Op.pick (tmp 74) (const (Value.bool true)) (tm
      refine inv_val (i := 24) (by kernel_rfl) rfl rfl (fun w1 hS hd K hK => ?_) ?_
      · (try dsimp only at hS)
        go_simp
        exact hK.out _ _ (by simp only [Act.put, List.setIfInBounds_toArray, List.set_cons_zero, List.set_cons_succ, List.nil_append, List.cons_append]; rfl) (Below.refl _ _)
      simp only [Act.put, List.setIfInBounds_toArray, List.set_cons_zero, List.set_cons_succ, List.nil_append, List.cons_append]
      refine inv_done (by kernel_rfl) (fun w3 hS hd => ?_)
      have hbel3 := hS.1.bel
      clear hS hd HT2 HFA1 HU HFA HA
      obtain ⟨R, ge, hg1, hg2⟩ := gets_any s (by omega)
      have HG1 := Lib.hid hg1
      have HG2 := Lib.hid hg2
      clear hg1 hg2 hXok hFok HX HF
      go_wp2
      go_loopw [11] (fun i wr => ∃ (k : Nat), k ≤ l.length ∧ i = .int .i64 k ∧ Below w.heap.size w wr) (fun i _ => l.length - (intOf i).toNat)
      case atStart => exact ⟨0, Nat.zero_le _, rfl, hbel3⟩
      case round =>
        obtain ⟨k, hk, rfl, hnx⟩ := hrel
        by_cases hlt : k < l.length
        · obtain ⟨b, o, rfl, hbw, hcl⟩ := HLC.out (by intro h; simp [h] at hlt)
          have hx5 := hcl k hlt
          have hxI := HJ.out (l.getD k AggV.zero) (by simp [hlt])
          obtain ⟨E, hE⟩ : ∃ E, E = l.getD k AggV.zero := ⟨_, rfl⟩
          rw [← hE] at hx5 hxI
          have HX5 := Lib.hid (show (fun w' : World => w'.cell? ⟨b, o + k * 5, none⟩ = some (.int .i64 E.c) ∧ w'.cell? ⟨b, o + k * 5 + 1, none⟩ = some (.int .i64 E.hi) ∧ w'.cell? ⟨b, o + k * 5 + 2, none⟩ = some (.int .u64 E.lo) ∧ w'.cell? ⟨b, o + k * 5 + 3, none⟩ = some (.int .i64 E.mn) ∧ w'.cell? ⟨b, o + k * 5 + 4, none⟩ = some (.int .i64 E.mx)) wr from x5_step hx5 hbw hnx)
          have HEI := Lib.hid hxI
          clear hx5 hxI hE hcl hbel3
          cases hval : E.valid
          · have hP := Lib.hid (show RPutRes E = .tuple #[.string ByteArray.empty, .int .i64 1] by unfold RPutRes; rw [hval]; rfl)
            have VAL := Lib.hid hval
            clear hval
            have hx5 := HX5.out
            dsimp only at hx5
            go_wp2_with fail
            refine (put_any E _ HEI.out).mono ?_
            rintro e w4 ⟨rfl, hb⟩
            rw [hP.out]
            have hn4 := chain hnx hb
            have hx6 := x5_step hx5 (Nat.lt_of_lt_of_le hbw (hnx).size) hb
            have HX6 := Lib.hid (show (fun w' : World => w'.cell? ⟨b, o + k * 5, none⟩ = some (.int .i64 E.c) ∧ w'.cell? ⟨b, o + k * 5 + 1, none⟩ = some (.int .i64 E.hi) ∧ w'.cell? ⟨b, o + k * 5 + 2, none⟩ = some (.int .u64 E.lo) ∧ w'.cell? ⟨b, o + k * 5 + 3, none⟩ = some (.int .i64 E.mn) ∧ w'.cell? ⟨b, o + k * 5 + 4, none⟩ = some (.int .i64 E.mx)) w4 from hx6)
            clear hx5 hb
            have hx5 := hx6
            clear hx6
            go_wp2_with fail
            refine (rput_any E _ HEI.out).mono ?_
            rintro e w5 ⟨rfl, hb⟩
            rw [hP.out]
            have hn5 := chain hn4 hb
            have hx6 := x5_step hx5 (Nat.lt_of_lt_of_le hbw (hn4).size) hb
            have HX7 := Lib.hid (show (fun w' : World => w'.cell? ⟨b, o + k * 5, none⟩ = some (.int .i64 E.c) ∧ w'.cell? ⟨b, o + k * 5 + 1, none⟩ = some (.int .i64 E.hi) ∧ w'.cell? ⟨b, o + k * 5 + 2, none⟩ = some (.int .u64 E.lo) ∧ w'.cell? ⟨b, o + k * 5 + 3, none⟩ = some (.int .i64 E.mn) ∧ w'.cell? ⟨b, o + k * 5 + 4, none⟩ = some (.int .i64 E.mx)) w5 from hx6)
            clear hx5 hb
            have hx5 := hx6
            clear hx6
            clear hx5
            go_wp2_with fail
            refine wp_region_inv (S := (fun w' => Below w.heap.size w w' ∧ w'.cell? ⟨b, o + k * 5, none⟩ = some (.int .i64 E.c) ∧ w'.cell? ⟨b, o + k * 5 + 1, none⟩ = some (.int .i64 E.hi) ∧ w'.cell? ⟨b, o + k * 5 + 2, none⟩ = some (.int .u64 E.lo) ∧ w'.cell? ⟨b, o + k * 5 + 3, none⟩ = some (.int .i64 E.mn) ∧ w'.cell? ⟨b, o + k * 5 + 4, none⟩ = some (.int .i64 E.mx))) 21 (Spec.val ?_ :: Spec.val ?_ :: Spec.val ?_ :: Spec.val ?_ :: Spec.val ?_ :: Spec.val ?_ :: Spec.val ?_ :: Spec.val ?_ :: Spec.val ?_ :: Spec.val ?_ :: Spec.val ?_ :: Spec.val ?_ :: Spec.val ?_ :: Spec.val ?_ :: Spec.val ?_ :: Spec.val ?_ :: Spec.val ?_ :: Spec.val ?_ :: Spec.val ?_ :: Spec.val ?_ :: Spec.val ?_ :: []) (by kernel_rfl) (by kernel_rfl) rfl (fun w1 w2 h hb => ⟨chain h.1 hb, x5_step h.2 (Nat.lt_of_lt_of_le hbw h.1.size) hb⟩) (⟨hn5.drew, HX7.out⟩) ?hm3
            case' hm3 => skip
            -- op 0: t102 := Op.move (tmp 1)
            refine inv_val (i := 0) (by kernel_rfl) rfl rfl (fun w1 hS hd K hK => ?_) ?_
            · (try dsimp only at hS)
              go_simp
              exact hK.out _ _ (by simp only [Act.put, List.setIfInBounds_toArray, List.set_cons_zero, List.set_cons_succ, List.nil_append, List.cons_append]; rfl) (Below.refl _ _)
            simp only [Act.put, List.setIfInBounds_toArray, List.set_cons_zero, List.set_cons_succ, List.nil_append, List.cons_append]
            -- op 1: t103 := Op.move (tmp 11)
            refine inv_val (i := 1) (by kernel_rfl) rfl rfl (fun w1 hS hd K hK => ?_) ?_
            · (try dsimp only at hS)
              go_simp
              exact hK.out _ _ (by simp only [Act.put, List.setIfInBounds_toArray, List.set_cons_zero, List.set_cons_succ, List.nil_append, List.cons_append]; rfl) (Below.refl _ _)
            simp only [Act.put, List.setIfInBounds_toArray, List.set_cons_zero, List.set_cons_succ, List.nil_append, List.cons_append]
            -- op 2: t104 := Op.indexAddr 44 (tmp 102) (tmp 103)
            refine inv_val (i := 2) (by kernel_rfl) rfl rfl (fun w1 hS hd K hK => ?_) ?_
            · (try dsimp only at hS)
              go_simp
              exact hK.out _ _ (by simp only [Act.put, List.setIfInBounds_toArray, List.set_cons_zero, List.set_cons_succ, List.nil_append, List.cons_append]; rfl) (Below.refl _ _)
            simp only [Act.put, List.setIfInBounds_toArray, List.set_cons_zero, List.set_cons_succ, List.nil_append, List.cons_append]
            -- op 3: t105 := Op.load 26 (tmp 104)
            refine inv_val (i := 3) (by kernel_rfl) rfl rfl (fun w1 hS hd K hK => ?_) ?_
            · (try dsimp only at hS)
              go_simp
              exact hK.out _ _ (by simp only [Act.put, List.setIfInBounds_toArray, List.set_cons_zero, List.set_cons_succ, List.nil_append, List.cons_append]; rfl) (Below.refl _ _)
            simp only [Act.put, List.setIfInBounds_toArray, List.set_cons_zero, List.set_cons_succ, List.nil_append, List.cons_append]
            -- op 4: t106 := Op.call { callee := Callee.value (func 12), args := #[
            refine inv_val (i := 4) (by kernel_rfl) rfl rfl (fun w1 hS hd K hK => ?_) ?_
            · (try dsimp only at hS)
              go_simp
              refine (valid_val E _).mono ?_; rintro e w2 ⟨rfl, hb⟩; rw [VAL.out]; exact hK.out _ _ (by simp only [Act.put, List.setIfInBounds_toArray, List.set_cons_zero, List.set_cons_succ, List.nil_append, List.cons_append]; rfl) hb
            simp only [Act.put, List.setIfInBounds_toArray, List.set_cons_zero, List.set_cons_succ, List.nil_append, List.cons_append]
            -- op 5: t107 := Op.move (tmp 1)
            refine inv_val (i := 5) (by kernel_rfl) rfl rfl (fun w1 hS hd K hK => ?_) ?_
            · (try dsimp only at hS)
              go_simp
              exact hK.out _ _ (by simp only [Act.put, List.setIfInBounds_toArray, List.set_cons_zero, List.set_cons_succ, List.nil_append, List.cons_append]; rfl) (Below.refl _ _)
            simp only [Act.put, List.setIfInBounds_toArray, List.set_cons_zero, List.set_cons_succ, List.nil_append, List.cons_append]
            -- op 6: t108 := Op.move (tmp 11)
            refine inv_val (i := 6) (by kernel_rfl) rfl rfl (fun w1 hS hd K hK => ?_) ?_
            · (try dsimp only at hS)
              go_simp
              exact hK.out _ _ (by simp only [Act.put, List.setIfInBounds_toArray, List.set_cons_zero, List.set_cons_succ, List.nil_append, List.cons_append]; rfl) (Below.refl _ _)
            simp only [Act.put, List.setIfInBounds_toArray, List.set_cons_zero, List.set_cons_succ, List.nil_append, List.cons_append]
            -- op 7: t109 := Op.indexAddr 44 (tmp 107) (tmp 108)
            refine inv_val (i := 7) (by kernel_rfl) rfl rfl (fun w1 hS hd K hK => ?_) ?_
            · (try dsimp only at hS)
              go_simp
              exact hK.out _ _ (by simp only [Act.put, List.setIfInBounds_toArray, List.set_cons_zero, List.set_cons_succ, List.nil_append, List.cons_append]; rfl) (Below.refl _ _)
            simp only [Act.put, List.setIfInBounds_toArray, List.set_cons_zero, List.set_cons_succ, List.nil_append, List.cons_append]
            -- op 8: t110 := Op.load 26 (tmp 109)
            refine inv_val (i := 8) (by kernel_rfl) rfl rfl (fun w1 hS hd K hK => ?_) ?_
            · (try dsimp only at hS)
              go_simp
              exact hK.out _ _ (by simp only [Act.put, List.setIfInBounds_toArray, List.set_cons_zero, List.set_cons_succ, List.nil_append, List.cons_append]; rfl) (Below.refl _ _)
            simp only [Act.put, List.setIfInBounds_toArray, List.set_cons_zero, List.set_cons_succ, List.nil_append, List.cons_append]
            -- op 9: t111 := Op.call { callee := Callee.value (func 25), args := #[
            refine inv_val (i := 9) (by kernel_rfl) rfl rfl (fun w1 hS hd K hK => ?_) ?_
            · (try dsimp only at hS)
              go_simp
              refine (rvalid_val E _).mono ?_; rintro e w2 ⟨rfl, hb⟩; rw [VAL.out]; exact hK.out _ _ (by simp only [Act.put, List.setIfInBounds_toArray, List.set_cons_zero, List.set_cons_succ, List.nil_append, List.cons_append]; rfl) hb
            simp only [Act.put, List.setIfInBounds_toArray, List.set_cons_zero, List.set_cons_succ, List.nil_append, List.cons_append]
            -- op 10: t112 := Op.binOp BinOp.neq 4 (tmp 106) (tmp 111) 4
            refine inv_val (i := 10) (by kernel_rfl) rfl rfl (fun w1 hS hd K hK => ?_) ?_
            · (try dsimp only at hS)
              go_simp
              exact hK.out _ _ (by simp only [Act.put, List.setIfInBounds_toArray, List.set_cons_zero, List.set_cons_succ, List.nil_append, List.cons_append]; rfl) (Below.refl _ _)
            simp only [Act.put, List.setIfInBounds_toArray, List.set_cons_zero, List.set_cons_succ, List.nil_append, List.cons_append]
            -- op 11: t113 := Op.move (tmp 112)
            refine inv_val (i := 11) (by kernel_rfl) rfl rfl (fun w1 hS hd K hK => ?_) ?_
            · (try dsimp only at hS)
              go_simp
              exact hK.out _ _ (by simp only [Act.put, List.setIfInBounds_toArray, List.set_cons_zero, List.set_cons_succ, List.nil_append, List.cons_append]; rfl) (Below.refl _ _)
            simp only [Act.put, List.setIfInBounds_toArray, List.set_cons_zero, List.set_cons_succ, List.nil_append, List.cons_append]
            -- op 12: t114 := Op.move (tmp 12)
            refine inv_val (i := 12) (by kernel_rfl) rfl rfl (fun w1 hS hd K hK => ?_) ?_
            · (try dsimp only at hS)
              go_simp
              exact hK.out _ _ (by simp only [Act.put, List.setIfInBounds_toArray, List.set_cons_zero, List.set_cons_succ, List.nil_append, List.cons_append]; rfl) (Below.refl _ _)
            simp only [Act.put, List.setIfInBounds_toArray, List.set_cons_zero, List.set_cons_succ, List.nil_append, List.cons_append]
            -- op 13: t115 := Op.move (tmp 14)
            refine inv_val (i := 13) (by kernel_rfl) rfl rfl (fun w1 hS hd K hK => ?_) ?_
            · (try dsimp only at hS)
              go_simp
              exact hK.out _ _ (by simp only [Act.put, List.setIfInBounds_toArray, List.set_cons_zero, List.set_cons_succ, List.nil_append, List.cons_append]; rfl) (Below.refl _ _)
            simp only [Act.put, List.setIfInBounds_toArray, List.set_cons_zero, List.set_cons_succ, List.nil_append, List.cons_append]
            -- op 14: t116 := Op.binOp BinOp.neq 9 (tmp 114) (tmp 115) 9
            refine inv_val (i := 14) (by kernel_rfl) rfl rfl (fun w1 hS hd K hK => ?_) ?_
            · (try dsimp only at hS)
              go_simp
              exact hK.out _ _ (by simp only [Act.put, List.setIfInBounds_toArray, List.set_cons_zero, List.set_cons_succ, List.nil_append, List.cons_append]; rfl) (Below.refl _ _)
            simp only [Act.put, List.setIfInBounds_toArray, List.set_cons_zero, List.set_cons_succ, List.nil_append, List.cons_append]
            -- op 15: t117 := Op.pick (tmp 113) (const (Value.bool true)) (t
            refine inv_val (i := 15) (by kernel_rfl) rfl rfl (fun w1 hS hd K hK => ?_) ?_
            · (try dsimp only at hS)
              go_simp
              exact hK.out _ _ (by simp only [Act.put, List.setIfInBounds_toArray, List.set_cons_zero, List.set_cons_succ, List.nil_append, List.cons_append]; rfl) (Below.refl _ _)
            simp only [Act.put, List.setIfInBounds_toArray, List.set_cons_zero, List.set_cons_succ, List.nil_append, List.cons_append]
            -- op 16: t118 := Op.move (tmp 117)
            refine inv_val (i := 16) (by kernel_rfl) rfl rfl (fun w1 hS hd K hK => ?_) ?_
            · (try dsimp only at hS)
              go_simp
              exact hK.out _ _ (by simp only [Act.put, List.setIfInBounds_toArray, List.set_cons_zero, List.set_cons_succ, List.nil_append, List.cons_append]; rfl) (Below.refl _ _)
            simp only [Act.put, List.setIfInBounds_toArray, List.set_cons_zero, List.set_cons_succ, List.nil_append, List.cons_append]
            -- op 17: t119 := Op.move (tmp 13)
            refine inv_val (i := 17) (by kernel_rfl) rfl rfl (fun w1 hS hd K hK => ?_) ?_
            · (try dsimp only at hS)
              go_simp
              exact hK.out _ _ (by simp only [Act.put, List.setIfInBounds_toArray, List.set_cons_zero, List.set_cons_succ, List.nil_append, List.cons_append]; rfl) (Below.refl _ _)
            simp only [Act.put, List.setIfInBounds_toArray, List.set_cons_zero, List.set_cons_succ, List.nil_append, List.cons_append]
            -- op 18: t120 := Op.move (tmp 15)
            refine inv_val (i := 18) (by kernel_rfl) rfl rfl (fun w1 hS hd K hK => ?_) ?_
            · (try dsimp only at hS)
              go_simp
              exact hK.out _ _ (by simp only [Act.put, List.setIfInBounds_toArray, List.set_cons_zero, List.set_cons_succ, List.nil_append, List.cons_append]; rfl) (Below.refl _ _)
            simp only [Act.put, List.setIfInBounds_toArray, List.set_cons_zero, List.set_cons_succ, List.nil_append, List.cons_append]
            -- op 19: t121 := Op.binOp BinOp.neq 38 (tmp 119) (tmp 120) 38
            refine inv_val (i := 19) (by kernel_rfl) rfl rfl (fun w1 hS hd K hK => ?_) ?_
            · (try dsimp only at hS)
              go_simp
              exact hK.out _ _ (by simp only [Act.put, List.setIfInBounds_toArray, List.set_cons_zero, List.set_cons_succ, List.nil_append, List.cons_append]; rfl) (Below.refl _ _)
            simp only [Act.put, List.setIfInBounds_toArray, List.set_cons_zero, List.set_cons_succ, List.nil_append, List.cons_append]
            -- op 20: t122 := Op.pick (tmp 118) (const (Value.bool true)) (t
            refine inv_val (i := 20) (by kernel_rfl) rfl rfl (fun w1 hS hd K hK => ?_) ?_
            · (try dsimp only at hS)
              go_simp
              exact hK.out _ _ (by simp only [Act.put, List.setIfInBounds_toArray, List.set_cons_zero, List.set_cons_succ, List.nil_append, List.cons_append]; rfl) (Below.refl _ _)
            simp only [Act.put, List.setIfInBounds_toArray, List.set_cons_zero, List.set_cons_succ, List.nil_append, List.cons_append]
            refine inv_done (by kernel_rfl) (fun w7 hS hd => ?_)
            have hn7 := hS.1
            clear HX7
            have HX7 := Lib.hid (show (fun w' : World => w'.cell? ⟨b, o + k * 5, none⟩ = some (.int .i64 E.c) ∧ w'.cell? ⟨b, o + k * 5 + 1, none⟩ = some (.int .i64 E.hi) ∧ w'.cell? ⟨b, o + k * 5 + 2, none⟩ = some (.int .u64 E.lo) ∧ w'.cell? ⟨b, o + k * 5 + 3, none⟩ = some (.int .i64 E.mn) ∧ w'.cell? ⟨b, o + k * 5 + 4, none⟩ = some (.int .i64 E.mx)) w7 from hS.2)
            clear hS hd HX6 hn4 hn5
            have hx5 := HX7.out
            dsimp only at hx5
            go_wp2_with fail
            refine (rvalid_val E _).mono ?_
            rintro e w8 ⟨rfl, hb⟩
            rw [VAL.out]
            have hn8 := chain hn7 hb
            have HX8 := Lib.hid (show (fun w' : World => w'.cell? ⟨b, o + k * 5, none⟩ = some (.int .i64 E.c) ∧ w'.cell? ⟨b, o + k * 5 + 1, none⟩ = some (.int .i64 E.hi) ∧ w'.cell? ⟨b, o + k * 5 + 2, none⟩ = some (.int .u64 E.lo) ∧ w'.cell? ⟨b, o + k * 5 + 3, none⟩ = some (.int .i64 E.mn) ∧ w'.cell? ⟨b, o + k * 5 + 4, none⟩ = some (.int .i64 E.mx)) w8 from x5_step hx5 (Nat.lt_of_lt_of_le hbw hn7.size) hb)
            clear hx5 hn7 hb HX7
            go_wp2_with fail
            refine wp_region_inv (S := (fun w' => Below w.heap.size w w' ∧ w'.cell? ⟨b, o + k * 5, none⟩ = some (.int .i64 E.c) ∧ w'.cell? ⟨b, o + k * 5 + 1, none⟩ = some (.int .i64 E.hi) ∧ w'.cell? ⟨b, o + k * 5 + 2, none⟩ = some (.int .u64 E.lo) ∧ w'.cell? ⟨b, o + k * 5 + 3, none⟩ = some (.int .i64 E.mn) ∧ w'.cell? ⟨b, o + k * 5 + 4, none⟩ = some (.int .i64 E.mx))) 11 (Spec.val ?_ :: Spec.val ?_ :: Spec.val ?_ :: Spec.val ?_ :: Spec.val ?_ :: Spec.val ?_ :: Spec.val ?_ :: Spec.val ?_ :: Spec.val ?_ :: Spec.val ?_ :: Spec.val ?_ :: []) (by kernel_rfl) (by kernel_rfl) rfl (fun w1 w2 h hb => ⟨chain h.1 hb, x5_step h.2 (Nat.lt_of_lt_of_le hbw h.1.size) hb⟩) (⟨hn8.drew, HX8.out⟩) ?hm4
            case' hm4 => skip
            -- op 0: t152 := Op.move (tmp 1)
            refine inv_val (i := 0) (by kernel_rfl) rfl rfl (fun w1 hS hd K hK => ?_) ?_
            · (try dsimp only at hS)
              go_simp
              exact hK.out _ _ (by simp only [Act.put, List.setIfInBounds_toArray, List.set_cons_zero, List.set_cons_succ, List.nil_append, List.cons_append]; rfl) (Below.refl _ _)
            simp only [Act.put, List.setIfInBounds_toArray, List.set_cons_zero, List.set_cons_succ, List.nil_append, List.cons_append]
            -- op 1: t153 := Op.move (tmp 11)
            refine inv_val (i := 1) (by kernel_rfl) rfl rfl (fun w1 hS hd K hK => ?_) ?_
            · (try dsimp only at hS)
              go_simp
              exact hK.out _ _ (by simp only [Act.put, List.setIfInBounds_toArray, List.set_cons_zero, List.set_cons_succ, List.nil_append, List.cons_append]; rfl) (Below.refl _ _)
            simp only [Act.put, List.setIfInBounds_toArray, List.set_cons_zero, List.set_cons_succ, List.nil_append, List.cons_append]
            -- op 2: t154 := Op.indexAddr 44 (tmp 152) (tmp 153)
            refine inv_val (i := 2) (by kernel_rfl) rfl rfl (fun w1 hS hd K hK => ?_) ?_
            · (try dsimp only at hS)
              go_simp
              exact hK.out _ _ (by simp only [Act.put, List.setIfInBounds_toArray, List.set_cons_zero, List.set_cons_succ, List.nil_append, List.cons_append]; rfl) (Below.refl _ _)
            simp only [Act.put, List.setIfInBounds_toArray, List.set_cons_zero, List.set_cons_succ, List.nil_append, List.cons_append]
            -- op 3: t155 := Op.load 26 (tmp 154)
            refine inv_val (i := 3) (by kernel_rfl) rfl rfl (fun w1 hS hd K hK => ?_) ?_
            · (try dsimp only at hS)
              go_simp
              exact hK.out _ _ (by simp only [Act.put, List.setIfInBounds_toArray, List.set_cons_zero, List.set_cons_succ, List.nil_append, List.cons_append]; rfl) (Below.refl _ _)
            simp only [Act.put, List.setIfInBounds_toArray, List.set_cons_zero, List.set_cons_succ, List.nil_append, List.cons_append]
            -- op 4: t156 := Op.call { callee := Callee.value (func 15), args := #[
            refine inv_val (i := 4) (by kernel_rfl) rfl rfl (fun w1 hS hd K hK => ?_) ?_
            · (try dsimp only at hS)
              go_simp
              refine (mean_any E _ HEI.out).mono ?_; rintro e w2 ⟨rfl, hb⟩; exact hK.out _ _ (by simp only [Act.put, List.setIfInBounds_toArray, List.set_cons_zero, List.set_cons_succ, List.nil_append, List.cons_append]; rfl) hb
            simp only [Act.put, List.setIfInBounds_toArray, List.set_cons_zero, List.set_cons_succ, List.nil_append, List.cons_append]
            -- op 5: t157 := Op.move (tmp 1)
            refine inv_val (i := 5) (by kernel_rfl) rfl rfl (fun w1 hS hd K hK => ?_) ?_
            · (try dsimp only at hS)
              go_simp
              exact hK.out _ _ (by simp only [Act.put, List.setIfInBounds_toArray, List.set_cons_zero, List.set_cons_succ, List.nil_append, List.cons_append]; rfl) (Below.refl _ _)
            simp only [Act.put, List.setIfInBounds_toArray, List.set_cons_zero, List.set_cons_succ, List.nil_append, List.cons_append]
            -- op 6: t158 := Op.move (tmp 11)
            refine inv_val (i := 6) (by kernel_rfl) rfl rfl (fun w1 hS hd K hK => ?_) ?_
            · (try dsimp only at hS)
              go_simp
              exact hK.out _ _ (by simp only [Act.put, List.setIfInBounds_toArray, List.set_cons_zero, List.set_cons_succ, List.nil_append, List.cons_append]; rfl) (Below.refl _ _)
            simp only [Act.put, List.setIfInBounds_toArray, List.set_cons_zero, List.set_cons_succ, List.nil_append, List.cons_append]
            -- op 7: t159 := Op.indexAddr 44 (tmp 157) (tmp 158)
            refine inv_val (i := 7) (by kernel_rfl) rfl rfl (fun w1 hS hd K hK => ?_) ?_
            · (try dsimp only at hS)
              go_simp
              exact hK.out _ _ (by simp only [Act.put, List.setIfInBounds_toArray, List.set_cons_zero, List.set_cons_succ, List.nil_append, List.cons_append]; rfl) (Below.refl _ _)
            simp only [Act.put, List.setIfInBounds_toArray, List.set_cons_zero, List.set_cons_succ, List.nil_append, List.cons_append]
            -- op 8: t160 := Op.load 26 (tmp 159)
            refine inv_val (i := 8) (by kernel_rfl) rfl rfl (fun w1 hS hd K hK => ?_) ?_
            · (try dsimp only at hS)
              go_simp
              exact hK.out _ _ (by simp only [Act.put, List.setIfInBounds_toArray, List.set_cons_zero, List.set_cons_succ, List.nil_append, List.cons_append]; rfl) (Below.refl _ _)
            simp only [Act.put, List.setIfInBounds_toArray, List.set_cons_zero, List.set_cons_succ, List.nil_append, List.cons_append]
            -- op 9: t161 := Op.call { callee := Callee.value (func 27), args := #[
            refine inv_val (i := 9) (by kernel_rfl) rfl rfl (fun w1 hS hd K hK => ?_) ?_
            · (try dsimp only at hS)
              go_simp
              refine (rmean_any E _ HEI.out).mono ?_; rintro e w2 ⟨rfl, hb⟩; exact hK.out _ _ (by simp only [Act.put, List.setIfInBounds_toArray, List.set_cons_zero, List.set_cons_succ, List.nil_append, List.cons_append]; rfl) hb
            simp only [Act.put, List.setIfInBounds_toArray, List.set_cons_zero, List.set_cons_succ, List.nil_append, List.cons_append]
            -- op 10: t162 := Op.binOp BinOp.neq 3 (tmp 156) (tmp 161) 3
            refine inv_val (i := 10) (by kernel_rfl) rfl rfl (fun w1 hS hd K hK => ?_) ?_
            · (try dsimp only at hS)
              go_simp
              exact hK.out _ _ (by simp only [Act.put, List.setIfInBounds_toArray, List.set_cons_zero, List.set_cons_succ, List.nil_append, List.cons_append]; rfl) (Below.refl _ _)
            simp only [Act.put, List.setIfInBounds_toArray, List.set_cons_zero, List.set_cons_succ, List.nil_append, List.cons_append]
            refine inv_done (by kernel_rfl) (fun w11 hS hd => ?_)
            have hn11 := hS.1
            clear hS hd
            go_wp2
            go_roundw
            case rel => exact ⟨k + 1, by omega, by go_num, hn11⟩
            case measure => simp [intOf]; omega
          · have hP := Lib.hid (show RPutRes E = .tuple #[.string (strOf (putBytes E)), .int .i64 0] by unfold RPutRes; rw [hval]; rfl)
            obtain ⟨ps, hps⟩ : ∃ ps, ps = strOf (putBytes E) := ⟨_, rfl⟩
            rw [← hps] at hP
            have VAL := Lib.hid hval
            clear hval hps
            have hx5 := HX5.out
            dsimp only at hx5
            go_wp2_with fail
            refine (put_any E _ HEI.out).mono ?_
            rintro e w4 ⟨rfl, hb⟩
            rw [hP.out]
            have hn4 := chain hnx hb
            have hx6 := x5_step hx5 (Nat.lt_of_lt_of_le hbw (hnx).size) hb
            have HX6 := Lib.hid (show (fun w' : World => w'.cell? ⟨b, o + k * 5, none⟩ = some (.int .i64 E.c) ∧ w'.cell? ⟨b, o + k * 5 + 1, none⟩ = some (.int .i64 E.hi) ∧ w'.cell? ⟨b, o + k * 5 + 2, none⟩ = some (.int .u64 E.lo) ∧ w'.cell? ⟨b, o + k * 5 + 3, none⟩ = some (.int .i64 E.mn) ∧ w'.cell? ⟨b, o + k * 5 + 4, none⟩ = some (.int .i64 E.mx)) w4 from hx6)
            clear hx5 hb
            have hx5 := hx6
            clear hx6
            go_wp2_with fail
            refine (rput_any E _ HEI.out).mono ?_
            rintro e w5 ⟨rfl, hb⟩
            rw [hP.out]
            have hn5 := chain hn4 hb
            have hx6 := x5_step hx5 (Nat.lt_of_lt_of_le hbw (hn4).size) hb
            have HX7 := Lib.hid (show (fun w' : World => w'.cell? ⟨b, o + k * 5, none⟩ = some (.int .i64 E.c) ∧ w'.cell? ⟨b, o + k * 5 + 1, none⟩ = some (.int .i64 E.hi) ∧ w'.cell? ⟨b, o + k * 5 + 2, none⟩ = some (.int .u64 E.lo) ∧ w'.cell? ⟨b, o + k * 5 + 3, none⟩ = some (.int .i64 E.mn) ∧ w'.cell? ⟨b, o + k * 5 + 4, none⟩ = some (.int .i64 E.mx)) w5 from hx6)
            clear hx5 hb
            have hx5 := hx6
            clear hx6
            clear hx5
            go_wp2_with fail
            refine wp_region_inv (S := (fun w' => Below w.heap.size w w' ∧ w'.cell? ⟨b, o + k * 5, none⟩ = some (.int .i64 E.c) ∧ w'.cell? ⟨b, o + k * 5 + 1, none⟩ = some (.int .i64 E.hi) ∧ w'.cell? ⟨b, o + k * 5 + 2, none⟩ = some (.int .u64 E.lo) ∧ w'.cell? ⟨b, o + k * 5 + 3, none⟩ = some (.int .i64 E.mn) ∧ w'.cell? ⟨b, o + k * 5 + 4, none⟩ = some (.int .i64 E.mx))) 21 (Spec.val ?_ :: Spec.val ?_ :: Spec.val ?_ :: Spec.val ?_ :: Spec.val ?_ :: Spec.val ?_ :: Spec.val ?_ :: Spec.val ?_ :: Spec.val ?_ :: Spec.val ?_ :: Spec.val ?_ :: Spec.val ?_ :: Spec.val ?_ :: Spec.val ?_ :: Spec.val ?_ :: Spec.val ?_ :: Spec.val ?_ :: Spec.val ?_ :: Spec.val ?_ :: Spec.val ?_ :: Spec.val ?_ :: []) (by kernel_rfl) (by kernel_rfl) rfl (fun w1 w2 h hb => ⟨chain h.1 hb, x5_step h.2 (Nat.lt_of_lt_of_le hbw h.1.size) hb⟩) (⟨hn5.drew, HX7.out⟩) ?hm5
            case' hm5 => skip
            -- op 0: t102 := Op.move (tmp 1)
            refine inv_val (i := 0) (by kernel_rfl) rfl rfl (fun w1 hS hd K hK => ?_) ?_
            · (try dsimp only at hS)
              go_simp
              exact hK.out _ _ (by simp only [Act.put, List.setIfInBounds_toArray, List.set_cons_zero, List.set_cons_succ, List.nil_append, List.cons_append]; rfl) (Below.refl _ _)
            simp only [Act.put, List.setIfInBounds_toArray, List.set_cons_zero, List.set_cons_succ, List.nil_append, List.cons_append]
            -- op 1: t103 := Op.move (tmp 11)
            refine inv_val (i := 1) (by kernel_rfl) rfl rfl (fun w1 hS hd K hK => ?_) ?_
            · (try dsimp only at hS)
              go_simp
              exact hK.out _ _ (by simp only [Act.put, List.setIfInBounds_toArray, List.set_cons_zero, List.set_cons_succ, List.nil_append, List.cons_append]; rfl) (Below.refl _ _)
            simp only [Act.put, List.setIfInBounds_toArray, List.set_cons_zero, List.set_cons_succ, List.nil_append, List.cons_append]
            -- op 2: t104 := Op.indexAddr 44 (tmp 102) (tmp 103)
            refine inv_val (i := 2) (by kernel_rfl) rfl rfl (fun w1 hS hd K hK => ?_) ?_
            · (try dsimp only at hS)
              go_simp
              exact hK.out _ _ (by simp only [Act.put, List.setIfInBounds_toArray, List.set_cons_zero, List.set_cons_succ, List.nil_append, List.cons_append]; rfl) (Below.refl _ _)
            simp only [Act.put, List.setIfInBounds_toArray, List.set_cons_zero, List.set_cons_succ, List.nil_append, List.cons_append]
            -- op 3: t105 := Op.load 26 (tmp 104)
            refine inv_val (i := 3) (by kernel_rfl) rfl rfl (fun w1 hS hd K hK => ?_) ?_
            · (try dsimp only at hS)
              go_simp
              exact hK.out _ _ (by simp only [Act.put, List.setIfInBounds_toArray, List.set_cons_zero, List.set_cons_succ, List.nil_append, List.cons_append]; rfl) (Below.refl _ _)
            simp only [Act.put, List.setIfInBounds_toArray, List.set_cons_zero, List.set_cons_succ, List.nil_append, List.cons_append]
            -- op 4: t106 := Op.call { callee := Callee.value (func 12), args := #[
            refine inv_val (i := 4) (by kernel_rfl) rfl rfl (fun w1 hS hd K hK => ?_) ?_
            · (try dsimp only at hS)
              go_simp
              refine (valid_val E _).mono ?_; rintro e w2 ⟨rfl, hb⟩; rw [VAL.out]; exact hK.out _ _ (by simp only [Act.put, List.setIfInBounds_toArray, List.set_cons_zero, List.set_cons_succ, List.nil_append, List.cons_append]; rfl) hb
            simp only [Act.put, List.setIfInBounds_toArray, List.set_cons_zero, List.set_cons_succ, List.nil_append, List.cons_append]
            -- op 5: t107 := Op.move (tmp 1)
            refine inv_val (i := 5) (by kernel_rfl) rfl rfl (fun w1 hS hd K hK => ?_) ?_
            · (try dsimp only at hS)
              go_simp
              exact hK.out _ _ (by simp only [Act.put, List.setIfInBounds_toArray, List.set_cons_zero, List.set_cons_succ, List.nil_append, List.cons_append]; rfl) (Below.refl _ _)
            simp only [Act.put, List.setIfInBounds_toArray, List.set_cons_zero, List.set_cons_succ, List.nil_append, List.cons_append]
            -- op 6: t108 := Op.move (tmp 11)
            refine inv_val (i := 6) (by kernel_rfl) rfl rfl (fun w1 hS hd K hK => ?_) ?_
            · (try dsimp only at hS)
              go_simp
              exact hK.out _ _ (by simp only [Act.put, List.setIfInBounds_toArray, List.set_cons_zero, List.set_cons_succ, List.nil_append, List.cons_append]; rfl) (Below.refl _ _)
            simp only [Act.put, List.setIfInBounds_toArray, List.set_cons_zero, List.set_cons_succ, List.nil_append, List.cons_append]
            -- op 7: t109 := Op.indexAddr 44 (tmp 107) (tmp 108)
            refine inv_val (i := 7) (by kernel_rfl) rfl rfl (fun w1 hS hd K hK => ?_) ?_
            · (try dsimp only at hS)
              go_simp
              exact hK.out _ _ (by simp only [Act.put, List.setIfInBounds_toArray, List.set_cons_zero, List.set_cons_succ, List.nil_append, List.cons_append]; rfl) (Below.refl _ _)
            simp only [Act.put, List.setIfInBounds_toArray, List.set_cons_zero, List.set_cons_succ, List.nil_append, List.cons_append]
            -- op 8: t110 := Op.load 26 (tmp 109)
            refine inv_val (i := 8) (by kernel_rfl) rfl rfl (fun w1 hS hd K hK => ?_) ?_
            · (try dsimp only at hS)
              go_simp
              exact hK.out _ _ (by simp only [Act.put, List.setIfInBounds_toArray, List.set_cons_zero, List.set_cons_succ, List.nil_append, List.cons_append]; rfl) (Below.refl _ _)
            simp only [Act.put, List.setIfInBounds_toArray, List.set_cons_zero, List.set_cons_succ, List.nil_append, List.cons_append]
            -- op 9: t111 := Op.call { callee := Callee.value (func 25), args := #[
            refine inv_val (i := 9) (by kernel_rfl) rfl rfl (fun w1 hS hd K hK => ?_) ?_
            · (try dsimp only at hS)
              go_simp
              refine (rvalid_val E _).mono ?_; rintro e w2 ⟨rfl, hb⟩; rw [VAL.out]; exact hK.out _ _ (by simp only [Act.put, List.setIfInBounds_toArray, List.set_cons_zero, List.set_cons_succ, List.nil_append, List.cons_append]; rfl) hb
            simp only [Act.put, List.setIfInBounds_toArray, List.set_cons_zero, List.set_cons_succ, List.nil_append, List.cons_append]
            -- op 10: t112 := Op.binOp BinOp.neq 4 (tmp 106) (tmp 111) 4
            refine inv_val (i := 10) (by kernel_rfl) rfl rfl (fun w1 hS hd K hK => ?_) ?_
            · (try dsimp only at hS)
              go_simp
              exact hK.out _ _ (by simp only [Act.put, List.setIfInBounds_toArray, List.set_cons_zero, List.set_cons_succ, List.nil_append, List.cons_append]; rfl) (Below.refl _ _)
            simp only [Act.put, List.setIfInBounds_toArray, List.set_cons_zero, List.set_cons_succ, List.nil_append, List.cons_append]
            -- op 11: t113 := Op.move (tmp 112)
            refine inv_val (i := 11) (by kernel_rfl) rfl rfl (fun w1 hS hd K hK => ?_) ?_
            · (try dsimp only at hS)
              go_simp
              exact hK.out _ _ (by simp only [Act.put, List.setIfInBounds_toArray, List.set_cons_zero, List.set_cons_succ, List.nil_append, List.cons_append]; rfl) (Below.refl _ _)
            simp only [Act.put, List.setIfInBounds_toArray, List.set_cons_zero, List.set_cons_succ, List.nil_append, List.cons_append]
            -- op 12: t114 := Op.move (tmp 12)
            refine inv_val (i := 12) (by kernel_rfl) rfl rfl (fun w1 hS hd K hK => ?_) ?_
            · (try dsimp only at hS)
              go_simp
              exact hK.out _ _ (by simp only [Act.put, List.setIfInBounds_toArray, List.set_cons_zero, List.set_cons_succ, List.nil_append, List.cons_append]; rfl) (Below.refl _ _)
            simp only [Act.put, List.setIfInBounds_toArray, List.set_cons_zero, List.set_cons_succ, List.nil_append, List.cons_append]
            -- op 13: t115 := Op.move (tmp 14)
            refine inv_val (i := 13) (by kernel_rfl) rfl rfl (fun w1 hS hd K hK => ?_) ?_
            · (try dsimp only at hS)
              go_simp
              exact hK.out _ _ (by simp only [Act.put, List.setIfInBounds_toArray, List.set_cons_zero, List.set_cons_succ, List.nil_append, List.cons_append]; rfl) (Below.refl _ _)
            simp only [Act.put, List.setIfInBounds_toArray, List.set_cons_zero, List.set_cons_succ, List.nil_append, List.cons_append]
            -- op 14: t116 := Op.binOp BinOp.neq 9 (tmp 114) (tmp 115) 9
            refine inv_val (i := 14) (by kernel_rfl) rfl rfl (fun w1 hS hd K hK => ?_) ?_
            · (try dsimp only at hS)
              go_simp
              exact hK.out _ _ (by simp only [Act.put, List.setIfInBounds_toArray, List.set_cons_zero, List.set_cons_succ, List.nil_append, List.cons_append]; rfl) (Below.refl _ _)
            simp only [Act.put, List.setIfInBounds_toArray, List.set_cons_zero, List.set_cons_succ, List.nil_append, List.cons_append]
            -- op 15: t117 := Op.pick (tmp 113) (const (Value.bool true)) (t
            refine inv_val (i := 15) (by kernel_rfl) rfl rfl (fun w1 hS hd K hK => ?_) ?_
            · (try dsimp only at hS)
              go_simp
              exact hK.out _ _ (by simp only [Act.put, List.setIfInBounds_toArray, List.set_cons_zero, List.set_cons_succ, List.nil_append, List.cons_append]; rfl) (Below.refl _ _)
            simp only [Act.put, List.setIfInBounds_toArray, List.set_cons_zero, List.set_cons_succ, List.nil_append, List.cons_append]
            -- op 16: t118 := Op.move (tmp 117)
            refine inv_val (i := 16) (by kernel_rfl) rfl rfl (fun w1 hS hd K hK => ?_) ?_
            · (try dsimp only at hS)
              go_simp
              exact hK.out _ _ (by simp only [Act.put, List.setIfInBounds_toArray, List.set_cons_zero, List.set_cons_succ, List.nil_append, List.cons_append]; rfl) (Below.refl _ _)
            simp only [Act.put, List.setIfInBounds_toArray, List.set_cons_zero, List.set_cons_succ, List.nil_append, List.cons_append]
            -- op 17: t119 := Op.move (tmp 13)
            refine inv_val (i := 17) (by kernel_rfl) rfl rfl (fun w1 hS hd K hK => ?_) ?_
            · (try dsimp only at hS)
              go_simp
              exact hK.out _ _ (by simp only [Act.put, List.setIfInBounds_toArray, List.set_cons_zero, List.set_cons_succ, List.nil_append, List.cons_append]; rfl) (Below.refl _ _)
            simp only [Act.put, List.setIfInBounds_toArray, List.set_cons_zero, List.set_cons_succ, List.nil_append, List.cons_append]
            -- op 18: t120 := Op.move (tmp 15)
            refine inv_val (i := 18) (by kernel_rfl) rfl rfl (fun w1 hS hd K hK => ?_) ?_
            · (try dsimp only at hS)
              go_simp
              exact hK.out _ _ (by simp only [Act.put, List.setIfInBounds_toArray, List.set_cons_zero, List.set_cons_succ, List.nil_append, List.cons_append]; rfl) (Below.refl _ _)
            simp only [Act.put, List.setIfInBounds_toArray, List.set_cons_zero, List.set_cons_succ, List.nil_append, List.cons_append]
            -- op 19: t121 := Op.binOp BinOp.neq 38 (tmp 119) (tmp 120) 38
            refine inv_val (i := 19) (by kernel_rfl) rfl rfl (fun w1 hS hd K hK => ?_) ?_
            · (try dsimp only at hS)
              go_simp
              exact hK.out _ _ (by simp only [Act.put, List.setIfInBounds_toArray, List.set_cons_zero, List.set_cons_succ, List.nil_append, List.cons_append]; rfl) (Below.refl _ _)
            simp only [Act.put, List.setIfInBounds_toArray, List.set_cons_zero, List.set_cons_succ, List.nil_append, List.cons_append]
            -- op 20: t122 := Op.pick (tmp 118) (const (Value.bool true)) (t
            refine inv_val (i := 20) (by kernel_rfl) rfl rfl (fun w1 hS hd K hK => ?_) ?_
            · (try dsimp only at hS)
              go_simp
              exact hK.out _ _ (by simp only [Act.put, List.setIfInBounds_toArray, List.set_cons_zero, List.set_cons_succ, List.nil_append, List.cons_append]; rfl) (Below.refl _ _)
            simp only [Act.put, List.setIfInBounds_toArray, List.set_cons_zero, List.set_cons_succ, List.nil_append, List.cons_append]
            refine inv_done (by kernel_rfl) (fun w7 hS hd => ?_)
            have hn7 := hS.1
            clear HX7
            have HX7 := Lib.hid (show (fun w' : World => w'.cell? ⟨b, o + k * 5, none⟩ = some (.int .i64 E.c) ∧ w'.cell? ⟨b, o + k * 5 + 1, none⟩ = some (.int .i64 E.hi) ∧ w'.cell? ⟨b, o + k * 5 + 2, none⟩ = some (.int .u64 E.lo) ∧ w'.cell? ⟨b, o + k * 5 + 3, none⟩ = some (.int .i64 E.mn) ∧ w'.cell? ⟨b, o + k * 5 + 4, none⟩ = some (.int .i64 E.mx)) w7 from hS.2)
            clear hS hd HX6 hn4 hn5
            have hx5 := HX7.out
            dsimp only at hx5
            go_wp2_with fail
            refine (rvalid_val E _).mono ?_
            rintro e w8 ⟨rfl, hb⟩
            rw [VAL.out]
            have hn8 := chain hn7 hb
            have hx6 := x5_step hx5 (Nat.lt_of_lt_of_le hbw (hn7).size) hb
            have HX8 := Lib.hid (show (fun w' : World => w'.cell? ⟨b, o + k * 5, none⟩ = some (.int .i64 E.c) ∧ w'.cell? ⟨b, o + k * 5 + 1, none⟩ = some (.int .i64 E.hi) ∧ w'.cell? ⟨b, o + k * 5 + 2, none⟩ = some (.int .u64 E.lo) ∧ w'.cell? ⟨b, o + k * 5 + 3, none⟩ = some (.int .i64 E.mn) ∧ w'.cell? ⟨b, o + k * 5 + 4, none⟩ = some (.int .i64 E.mx)) w8 from hx6)
            clear hx5 hb
            have hx5 := hx6
            clear hx6
            go_wp2_with fail
            refine (sum_any E _ HEI.out).mono ?_
            rintro e w9 ⟨rfl, hb⟩
            have hn9 := chain hn8 hb
            have hx6 := x5_step hx5 (Nat.lt_of_lt_of_le hbw (hn8).size) hb
            have HX9 := Lib.hid (show (fun w' : World => w'.cell? ⟨b, o + k * 5, none⟩ = some (.int .i64 E.c) ∧ w'.cell? ⟨b, o + k * 5 + 1, none⟩ = some (.int .i64 E.hi) ∧ w'.cell? ⟨b, o + k * 5 + 2, none⟩ = some (.int .u64 E.lo) ∧ w'.cell? ⟨b, o + k * 5 + 3, none⟩ = some (.int .i64 E.mn) ∧ w'.cell? ⟨b, o + k * 5 + 4, none⟩ = some (.int .i64 E.mx)) w9 from hx6)
            clear hx5 hb
            have hx5 := hx6
            clear hx6
            go_wp2_with fail
            refine (rvalue_any E _ HEI.out).mono ?_
            rintro e w10 ⟨rfl, hb⟩
            have hn10 := chain hn9 hb
            have hx6 := x5_step hx5 (Nat.lt_of_lt_of_le hbw (hn9).size) hb
            have HX8 := Lib.hid (show (fun w' : World => w'.cell? ⟨b, o + k * 5, none⟩ = some (.int .i64 E.c) ∧ w'.cell? ⟨b, o + k * 5 + 1, none⟩ = some (.int .i64 E.hi) ∧ w'.cell? ⟨b, o + k * 5 + 2, none⟩ = some (.int .u64 E.lo) ∧ w'.cell? ⟨b, o + k * 5 + 3, none⟩ = some (.int .i64 E.mn) ∧ w'.cell? ⟨b, o + k * 5 + 4, none⟩ = some (.int .i64 E.mx)) w10 from hx6)
            clear hx5 hb
            have hx5 := hx6
            clear hx6
            clear hx5
            have hn8 := hn10
            clear hn10
            go_wp2_with fail
            refine wp_region_inv (S := (fun w' => Below w.heap.size w w' ∧ w'.cell? ⟨b, o + k * 5, none⟩ = some (.int .i64 E.c) ∧ w'.cell? ⟨b, o + k * 5 + 1, none⟩ = some (.int .i64 E.hi) ∧ w'.cell? ⟨b, o + k * 5 + 2, none⟩ = some (.int .u64 E.lo) ∧ w'.cell? ⟨b, o + k * 5 + 3, none⟩ = some (.int .i64 E.mn) ∧ w'.cell? ⟨b, o + k * 5 + 4, none⟩ = some (.int .i64 E.mx))) 11 (Spec.val ?_ :: Spec.val ?_ :: Spec.val ?_ :: Spec.val ?_ :: Spec.val ?_ :: Spec.val ?_ :: Spec.val ?_ :: Spec.val ?_ :: Spec.val ?_ :: Spec.val ?_ :: Spec.val ?_ :: []) (by kernel_rfl) (by kernel_rfl) rfl (fun w1 w2 h hb => ⟨chain h.1 hb, x5_step h.2 (Nat.lt_of_lt_of_le hbw h.1.size) hb⟩) (⟨hn8.drew, HX8.out⟩) ?hm6
            case' hm6 => skip
            -- op 0: t152 := Op.move (tmp 1)
            refine inv_val (i := 0) (by kernel_rfl) rfl rfl (fun w1 hS hd K hK => ?_) ?_
            · (try dsimp only at hS)
              go_simp
              exact hK.out _ _ (by simp only [Act.put, List.setIfInBounds_toArray, List.set_cons_zero, List.set_cons_succ, List.nil_append, List.cons_append]; rfl) (Below.refl _ _)
            simp only [Act.put, List.setIfInBounds_toArray, List.set_cons_zero, List.set_cons_succ, List.nil_append, List.cons_append]
            -- op 1: t153 := Op.move (tmp 11)
            refine inv_val (i := 1) (by kernel_rfl) rfl rfl (fun w1 hS hd K hK => ?_) ?_
            · (try dsimp only at hS)
              go_simp
              exact hK.out _ _ (by simp only [Act.put, List.setIfInBounds_toArray, List.set_cons_zero, List.set_cons_succ, List.nil_append, List.cons_append]; rfl) (Below.refl _ _)
            simp only [Act.put, List.setIfInBounds_toArray, List.set_cons_zero, List.set_cons_succ, List.nil_append, List.cons_append]
            -- op 2: t154 := Op.indexAddr 44 (tmp 152) (tmp 153)
            refine inv_val (i := 2) (by kernel_rfl) rfl rfl (fun w1 hS hd K hK => ?_) ?_
            · (try dsimp only at hS)
              go_simp
              exact hK.out _ _ (by simp only [Act.put, List.setIfInBounds_toArray, List.set_cons_zero, List.set_cons_succ, List.nil_append, List.cons_append]; rfl) (Below.refl _ _)
            simp only [Act.put, List.setIfInBounds_toArray, List.set_cons_zero, List.set_cons_succ, List.nil_append, List.cons_append]
            -- op 3: t155 := Op.load 26 (tmp 154)
            refine inv_val (i := 3) (by kernel_rfl) rfl rfl (fun w1 hS hd K hK => ?_) ?_
            · (try dsimp only at hS)
              go_simp
              exact hK.out _ _ (by simp only [Act.put, List.setIfInBounds_toArray, List.set_cons_zero, List.set_cons_succ, List.nil_append, List.cons_append]; rfl) (Below.refl _ _)
            simp only [Act.put, List.setIfInBounds_toArray, List.set_cons_zero, List.set_cons_succ, List.nil_append, List.cons_append]
            -- op 4: t156 := Op.call { callee := Callee.value (func 15), args := #[
            refine inv_val (i := 4) (by kernel_rfl) rfl rfl (fun w1 hS hd K hK => ?_) ?_
            · (try dsimp only at hS)
              go_simp
              refine (mean_any E _ HEI.out).mono ?_; rintro e w2 ⟨rfl, hb⟩; exact hK.out _ _ (by simp only [Act.put, List.setIfInBounds_toArray, List.set_cons_zero, List.set_cons_succ, List.nil_append, List.cons_append]; rfl) hb
            simp only [Act.put, List.setIfInBounds_toArray, List.set_cons_zero, List.set_cons_succ, List.nil_append, List.cons_append]
            -- op 5: t157 := Op.move (tmp 1)
            refine inv_val (i := 5) (by kernel_rfl) rfl rfl (fun w1 hS hd K hK => ?_) ?_
            · (try dsimp only at hS)
              go_simp
              exact hK.out _ _ (by simp only [Act.put, List.setIfInBounds_toArray, List.set_cons_zero, List.set_cons_succ, List.nil_append, List.cons_append]; rfl) (Below.refl _ _)
            simp only [Act.put, List.setIfInBounds_toArray, List.set_cons_zero, List.set_cons_succ, List.nil_append, List.cons_append]
            -- op 6: t158 := Op.move (tmp 11)
            refine inv_val (i := 6) (by kernel_rfl) rfl rfl (fun w1 hS hd K hK => ?_) ?_
            · (try dsimp only at hS)
              go_simp
              exact hK.out _ _ (by simp only [Act.put, List.setIfInBounds_toArray, List.set_cons_zero, List.set_cons_succ, List.nil_append, List.cons_append]; rfl) (Below.refl _ _)
            simp only [Act.put, List.setIfInBounds_toArray, List.set_cons_zero, List.set_cons_succ, List.nil_append, List.cons_append]
            -- op 7: t159 := Op.indexAddr 44 (tmp 157) (tmp 158)
            refine inv_val (i := 7) (by kernel_rfl) rfl rfl (fun w1 hS hd K hK => ?_) ?_
            · (try dsimp only at hS)
              go_simp
              exact hK.out _ _ (by simp only [Act.put, List.setIfInBounds_toArray, List.set_cons_zero, List.set_cons_succ, List.nil_append, List.cons_append]; rfl) (Below.refl _ _)
            simp only [Act.put, List.setIfInBounds_toArray, List.set_cons_zero, List.set_cons_succ, List.nil_append, List.cons_append]
            -- op 8: t160 := Op.load 26 (tmp 159)
            refine inv_val (i := 8) (by kernel_rfl) rfl rfl (fun w1 hS hd K hK => ?_) ?_
            · (try dsimp only at hS)
              go_simp
              exact hK.out _ _ (by simp only [Act.put, List.setIfInBounds_toArray, List.set_cons_zero, List.set_cons_succ, List.nil_append, List.cons_append]; rfl) (Below.refl _ _)
            simp only [Act.put, List.setIfInBounds_toArray, List.set_cons_zero, List.set_cons_succ, List.nil_append, List.cons_append]
            -- op 9: t161 := Op.call { callee := Callee.value (func 27), args := #[
            refine inv_val (i := 9) (by kernel_rfl) rfl rfl (fun w1 hS hd K hK => ?_) ?_
            · (try dsimp only at hS)
              go_simp
              refine (rmean_any E _ HEI.out).mono ?_; rintro e w2 ⟨rfl, hb⟩; exact hK.out _ _ (by simp only [Act.put, List.setIfInBounds_toArray, List.set_cons_zero, List.set_cons_succ, List.nil_append, List.cons_append]; rfl) hb
            simp only [Act.put, List.setIfInBounds_toArray, List.set_cons_zero, List.set_cons_succ, List.nil_append, List.cons_append]
            -- op 10: t162 := Op.binOp BinOp.neq 3 (tmp 156) (tmp 161) 3
            refine inv_val (i := 10) (by kernel_rfl) rfl rfl (fun w1 hS hd K hK => ?_) ?_
            · (try dsimp only at hS)
              go_simp
              exact hK.out _ _ (by simp only [Act.put, List.setIfInBounds_toArray, List.set_cons_zero, List.set_cons_succ, List.nil_append, List.cons_append]; rfl) (Below.refl _ _)
            simp only [Act.put, List.setIfInBounds_toArray, List.set_cons_zero, List.set_cons_succ, List.nil_append, List.cons_append]
            refine inv_done (by kernel_rfl) (fun w11 hS hd => ?_)
            have hn11 := hS.1
            clear hS hd
            go_wp2
            go_roundw
            case rel => exact ⟨k + 1, by omega, by go_num, hn11⟩
            case measure => simp [intOf]; omega
        · have hkl : k = l.length := by omega
          subst hkl
          clear hlt hbel3
          go_wp2_with fail
          refine (HG1.out _).mono ?_
          rintro e w4 ⟨rfl, hb4⟩
          have hn4 := chain hnx hb4
          clear hb4
          simp only [AggV.val]
          go_wp2_with fail
          refine (HG2.out _).mono ?_
          rintro e w5 ⟨rfl, hb5⟩
          have hr4 := heap_step (heap_step (heap_alloc_new w4 (.cells #[.int .i64 R.c, .int .i64 R.hi, .int .u64 R.lo, .int .i64 R.mn, .int .i64 R.mx] 26)) hb5) (bel_new w5 (.cells #[.int .i64 R.c, .int .i64 R.hi, .int .u64 R.lo, .int .i64 R.mn, .int .i64 R.mx] 26))
          have hr5 := heap_alloc_new w5 (.cells #[.int .i64 R.c, .int .i64 R.hi, .int .u64 R.lo, .int .i64 R.mn, .int .i64 R.mx] 26)
          have hn6 := chain (chain (chain hn4 (bel_new _ (.cells #[.int .i64 R.c, .int .i64 R.hi, .int .u64 R.lo, .int .i64 R.mn, .int .i64 R.mx] 26))) hb5) (bel_new _ (.cells #[.int .i64 R.c, .int .i64 R.hi, .int .u64 R.lo, .int .i64 R.mn, .int .i64 R.mx] 26))
          have HN6 := Lib.hid hn6
          have HR4 := Lib.hid hr4
          have HR5 := Lib.hid hr5
          clear hn4 hn6 hr4 hr5 hb5
          simp only [AggV.val]
          go_wp2_with fail
          refine (alive_any _).mono ?_
          rintro e w7 ⟨rfl, hb7⟩
          obtain ⟨c0, c1, c2, c3, c4⟩ := agg_cells (heap_step HR4.out hb7)
          obtain ⟨d0, d1, d2, d3, d4⟩ := agg_cells (heap_step HR5.out hb7)
          go_wp2
          go_ret
          exact ⟨rfl, chain HN6.out hb7⟩

set_option maxRecDepth 100000 in
set_option maxHeartbeats 1000000 in
theorem walkAggTells (v0 : Value) (v : List Int) (l0 : Value) (l : List AggV) (s : ByteArray) (w : World) (hv : IntsAt w v0 v) (hl : AggsAt w l0 l) (hs : s.size ≤ 9223372036854775807) :
    Calls Try.prog 9 #[v0, l0, .string s] w (BoolPost w true) := by
  by_cases hin : v.length ≤ 60 ∧ l.length ≤ 60 ∧ s.size ≤ 300
  · exact walkAggTellsIn v0 v l0 l s w hv hl hin.1 hin.2.1 hin.2.2
  · obtain ⟨va, vc, rfl, _⟩ := hv
    obtain ⟨la, lc, rfl, _⟩ := hl
    by_cases h1 : (60 : Int) < v.length
    all_goals by_cases h2 : (60 : Int) < l.length
    all_goals by_cases h3 : (300 : Int) < s.size
    all_goals first
      | (exfalso; omega)
      | (clear hin
         go_enter Try.func9, Try.ntmps9
         go_wp2_with fail
         refine (alive_any _).mono ?_
         rintro e w9 ⟨rfl, hb9⟩
         go_wp2
         go_ret
         exact ⟨rfl, hb9⟩)
end Go.Proofs.Ytagpamgdgcghfaa
