/-
  A book's lists of ints, marked.
-/
import Derived.Test.YtaenpcglaenlaaaBookI
import Derived.Test.YtaenpcglaenlaaaInv
namespace Go.Proofs.Ytaenpcglaenlaaa
open Go.RowKit
set_option linter.unusedVariables false
set_option linter.unusedSimpArgs false

/-- A book's lists of one kind: where they stand, and what is in them. -/
structure BK_i (w : World) (B p : Nat) (cs : Array Value) (n : Nat) (vs : Nat → Value) (ls : Nat → List Int) : Prop where
  blk : w.heap[p]? = some (.cells cs 58)
  row : ∃ lv, cs[2]? = some lv ∧ OwnL w B 25 1 lv n ((List.range n).map vs)
  fam : Fam w B 3 1 n vs (fun i => (ls i).length) (fun i => (List.map (Value.int .i64) (ls i)))
  few : n ≤ 250
  short : ∀ i, i < n → (ls i).length ≤ 100000
  ok : ∀ i, i < n → ∀ x ∈ ls i, (fun x => -9223372036854775808 ≤ x ∧ x ≤ 9223372036854775807) x
  base : B ≤ w.heap.size
section
variable {w w' : World} {B p n : Nat} {cs : Array Value} {vs : Nat → Value} {ls ms : Nat → List Int}
theorem BK_i.at (h : BK_i w B p cs n vs ls) {lv : Value} (hl : cs[2]? = some lv) : w.cell? ⟨p, 2, none⟩ = some lv ∧ OwnL w B 25 1 lv n ((List.range n).map vs) := by
  refine ⟨by rw [cell_of_row w p _ _ _ _ h.blk]; exact hl, ?_⟩
  obtain ⟨lv', h1, h2⟩ := h.row
  rw [hl] at h1
  injection h1 with h1
  rw [h1]; exact h2
theorem BK_i.below (h : BK_i w B p cs n vs ls) (hb : Below w.heap.size w w') : BK_i w' B p cs n vs ls := by
  obtain ⟨lv, h1, h2⟩ := h.row
  exact ⟨heap_step h.blk hb, ⟨lv, h1, h2.below hb⟩, h.fam.below hb, h.few, h.short, h.ok, Nat.le_trans h.base hb.size⟩
theorem BK_i.other {e : TypeId} (h : BK_i w B p cs n vs ls) (hs : TStep e w w') (h1 : 58 ≠ e) (h2 : 25 ≠ e) (h3 : 3 ≠ e) : BK_i w' B p cs n vs ls := by
  obtain ⟨lv, q1, q2⟩ := h.row
  refine ⟨hs.keep h.blk h1, ⟨lv, q1, hs.other q2 h2⟩, h.fam.other hs h3, h.few, h.short, h.ok, Nat.le_trans h.base hs.size⟩
/-- One of the lists has turned. -/
theorem BK_i.turn {i0 : Nat} (h : BK_i w B p cs n vs ls) (hi : i0 < n) (h0 : OwnL w' B 3 1 (vs i0) (ms i0).length ((List.map (Value.int .i64) (ms i0)))) (hn : ∀ i, i ≠ i0 → ms i = ls i) (hk : (ms i0).length ≤ 100000 ∧ ∀ x ∈ ms i0, (fun x => -9223372036854775808 ≤ x ∧ x ≤ 9223372036854775807) x)
    (hs : TStep 3 w w') (hh : ∀ g, g < w.heap.size → rowOf (vs i0) ≠ some g → w'.heap[g]? = w.heap[g]?) : BK_i w' B p cs n vs ms := by
  obtain ⟨lv, q1, q2⟩ := h.row
  refine ⟨hs.keep h.blk (by decide), ⟨lv, q1, hs.other q2 (by decide)⟩, h.fam.turn hi h0 (fun i hne => ?_) hh, h.few, fun i hi' => ?_, fun i hi' => ?_, Nat.le_trans h.base hs.size⟩
  · rw [hn i hne]; exact ⟨rfl, rfl⟩
  · by_cases hii : i = i0
    · subst hii; exact hk.1
    · rw [hn i hii]; exact h.short i hi'
  · by_cases hii : i = i0
    · subst hii; exact hk.2
    · rw [hn i hii]; exact h.ok i hi'
theorem BK_i.same (h : BK_i w B p cs n vs ls) (hm : ∀ i, i < n → ms i = ls i) : BK_i w B p cs n vs ms := by
  refine ⟨h.blk, h.row, ⟨fun i hi => ?_, h.fam.apart⟩, h.few, fun i hi => ?_, fun i hi => ?_, h.base⟩
  · rw [hm i hi]; exact h.fam.own i hi
  · rw [hm i hi]; exact h.short i hi
  · rw [hm i hi]; exact h.ok i hi
theorem BK_i.list (h : BK_i w B p cs n vs ls) {i : Nat} (hi : i < n) : IntsAt w (vs i) (ls i) := ints_of_ownL (h.fam.own i hi) (h.ok i hi)
/-- Behind the marks of the first lists. -/
def putL_i (ls : Nat → List Int) (i : Nat) : Nat → List Int := fun j => if j < i then marksI j 0 (ls j).length else ls j
def putK_i (ls : Nat → List Int) (i k : Nat) : Nat → List Int := fun j => if j < i then marksI j 0 (ls j).length else if j = i then (marksI i 0 (ls i).length).take k ++ (ls i).drop k else ls j
theorem putK_zero_i (i : Nat) : putK_i ls i 0 = putL_i ls i := by
  funext j; unfold putK_i putL_i
  by_cases h1 : j < i
  · rw [if_pos h1, if_pos h1]
  · rw [if_neg h1, if_neg h1]
    by_cases h2 : j = i
    · subst h2; rw [if_pos rfl]; simp
    · rw [if_neg h2]
theorem putK_last_i (i : Nat) : putK_i ls i (ls i).length = putL_i ls (i + 1) := by
  funext j; unfold putK_i putL_i
  by_cases h1 : j < i
  · rw [if_pos h1, if_pos (by omega)]
  · rw [if_neg h1]
    by_cases h2 : j = i
    · subst h2; rw [if_pos rfl, if_pos (by omega), List.take_of_length_le (by rw [marksI_len]; exact Nat.le_refl _), List.drop_length, List.append_nil]
    · rw [if_neg h2, if_neg (by omega)]
theorem putK_len_i (i k : Nat) : (putK_i ls i k i).length = (ls i).length := by
  unfold putK_i
  rw [if_neg (by omega), if_pos rfl, List.length_append, List.length_take, List.length_drop, marksI_len]; omega
theorem putK_succ_i {i k : Nat} (hk : k < (ls i).length) : putK_i ls i (k + 1) i = (putK_i ls i k i).set k ((marksI i 0 (ls i).length).getD k 0) := by
  have hl : (marksI i 0 (ls i).length).length = (ls i).length := marksI_len _ _ _
  unfold putK_i
  rw [if_neg (by omega), if_pos rfl, if_neg (by omega), if_pos rfl]
  exact (set_step hl hk (by rw [List.getD_eq_getElem?_getD, List.getElem?_eq_getElem (by omega)]; rfl)).symm
theorem putK_other_i {i j k k' : Nat} (h : j ≠ i) : putK_i ls i k j = putK_i ls i k' j := by
  unfold putK_i
  rw [if_neg h, if_neg h]
end
set_option maxRecDepth 100000 in
set_option maxHeartbeats 4000000 in
theorem put_i {w : World} {B p n : Nat} {cs : Array Value} {vs : Nat → Value} {ls : Nat → List Int} (h : BK_i w B p cs n vs ls) :
    Calls Try.prog 54 #[.pointer (some ⟨p, 0, none⟩)] w (fun x w' => x = .returned (.tuple #[]) ∧ BK_i w' B p cs n vs (fun i => marksI i 0 (ls i).length) ∧ Below B w w' ∧ TStep 3 w w') := by
  have H := Lib.hid h
  obtain ⟨lv, hlv, hrow⟩ := h.row
  obtain ⟨la, lc, rfl⟩ := hrow.form
  have HLV := Lib.hid hlv
  have hn := h.few
  clear h hlv hrow
  go_enter Try.func54, Try.ntmps54
  go_wp2
  go_loopw [2] (fun x wr => ∃ (i : Nat), i ≤ n ∧ x = .int .i64 i ∧ Hid (BK_i wr B p cs n vs (putL_i ls i)) ∧ Hid (Below B w wr ∧ TStep 3 w wr)) (fun x _ => n - (intOf x).toNat)
  case atStart => exact ⟨0, Nat.zero_le _, rfl, Lib.hid (H.out.same fun i _ => by unfold putL_i; rw [if_neg (by omega)]), Lib.hid ⟨Below.refl _ _, TStep.refl _ _⟩⟩
  case round =>
    obtain ⟨i, hi, rfl, HB, HS⟩ := hrel
    obtain ⟨c2, hrow⟩ := HB.out.at HLV.out
    by_cases hlt : i < n
    · obtain ⟨g, c, e1, hnc, hc, hg, hcell⟩ := rowAt hrow hlt
      injection e1 with e1 _ e2
      subst e1
      subst e2
      have hLI : putL_i ls i i = ls i := by unfold putL_i; rw [if_neg (by omega)]
      obtain ⟨ao, ca, hvi⟩ := (HB.out.fam.own i hlt).form
      have hl5 := HB.out.short i hlt
      have hcp := HB.out.fam.own i hlt
      rw [hvi] at hcp
      have hcp := hcp.cap.2
      (try dsimp only at hvi)
      rw [hLI] at hvi hl5 hcp
      have HVI := Lib.hid hvi
      rw [hvi] at hcell
      obtain ⟨m, hm⟩ : ∃ m, m = (ls i).length := ⟨_, rfl⟩
      rw [← hm] at hvi hl5 hcell hcp HVI
      have HM := Lib.hid hm
      have hi300 : i ≤ 300 := by omega
      clear hm hLI hvi
      go_wp2_with fail
      refine (marks_i i 0 m _ hi300 (by omega) (by omega)).mono ?_
      rintro e w1 ⟨mv, rfl, hmv, hb1⟩
      obtain ⟨ma, mc, rfl⟩ := own_form hmv
      obtain ⟨Z, hZ⟩ : ∃ Z, Z = wr.heap.size := ⟨_, rfl⟩
      rw [← hZ] at hmv
      have HMV := Lib.hid (OwnL.of_row hmv)
      have HZV := Lib.hid (show ∀ g, rowOf (vs i) = some g → g < Z from fun g hg => by rw [hZ]; exact ((HB.out.fam.own i hlt).lt hg).2.1)
      have HB1 := Lib.hid (HB.out.below hb1)
      have HS1 := Lib.hid (show Below B w w1 ∧ TStep 3 w w1 from ⟨HS.out.1.trans (hb1.mono HB.out.base), TStep.trans HS.out.2 (TStep.below hb1)⟩)
      have hsz : Z ≤ w1.heap.size := by rw [hZ]; exact hb1.size
      have hmc := (OwnL.of_row hmv).cap.2
      clear hmv hb1 c2 hrow hcell hg hnc hZ
      go_wp2
      go_loopw [4] (fun kk wr => ∃ (k : Nat), k ≤ m ∧ kk = .int .i64 k ∧ Hid (BK_i wr B p cs n vs (putK_i ls i k)) ∧ Hid (Below B w wr ∧ TStep 3 w wr) ∧ Hid (OwnL wr Z 3 1 (.slice ma m mc) m ((marksI i 0 m).map (Value.int .i64))) ∧ Z ≤ wr.heap.size) (fun x _ => m - (intOf x).toNat)
      case atStart => exact ⟨0, Nat.zero_le _, rfl, Lib.hid (by rw [putK_zero_i]; exact HB1.out), HS1, HMV, hsz⟩
      case round =>
        obtain ⟨k, hk, rfl, HB2, HS2, HM2, hsz2⟩ := hrel
        by_cases hkm : k < m
        · obtain ⟨c2, hrow⟩ := HB2.out.at HLV.out
          obtain ⟨g', c', e1, hnc, hc', hg, hcell⟩ := rowAt hrow hlt
          injection e1 with e1 _ e2
          injection e1 with e1; injection e1 with e1
          subst e1
          subst e2
          have hlen := putK_len_i (ls := ls) i k
          have hown := HB2.out.fam.own i hlt
          (try dsimp only at hown)
          rw [hlen, ← HM.out] at hown
          obtain ⟨g2, ca2, hv2, hp2, hle2, hc2, hB2, hlt2, hro2, ⟨cur2, hcur2⟩, hcl2⟩ := hown.cells (by omega)
          rw [HVI.out] at hv2
          injection hv2 with hv2 _ hv3
          subst hv2
          subst hv3
          rw [HVI.out] at hcell
          obtain ⟨mb, mc2, hv4, _, _, _, hB4, hlt4, _, _, hcl4⟩ := HM2.out.cells (by omega)
          injection hv4 with hv4 _ hv5
          subst hv4
          subst hv5
          have hx4 := hcl4 k (by omega)
          obtain ⟨x, hx⟩ : ∃ x, x = (marksI i 0 m).getD k 0 := ⟨_, rfl⟩
          have hmkl : (marksI i 0 m).length = m := marksI_len _ _ _
          have hx' : (marksI i 0 m)[k]? = some x := by rw [hx, List.getD_eq_getElem?_getD, List.getElem?_eq_getElem (by omega)]; rfl
          rw [List.getElem?_map, hx'] at hx4
          simp only [Option.map_some] at hx4
          have hold := hcl2 k (by omega)
          obtain ⟨y, hy⟩ : ∃ y, (putK_i ls i k i)[k]? = some y := ⟨_, List.getElem?_eq_getElem (by rw [hlen, ← HM.out]; exact hkm)⟩
          rw [List.getElem?_map, hy] at hold
          simp only [Option.map_some] at hold
          have hfr : wr.frozen? ⟨g2, k, none⟩ = false := frozen_row hcur2
          have hne : g2 < Z := by
            exact HZV.out g2 (by rw [HVI.out]; exact rowOf_pos hp2)
          have HX := Lib.hid hx
          have HNE := Lib.hid hne
          have HB4 := Lib.hid hB4
          have HOW := Lib.hid hown
          have HRO := Lib.hid (show rowOf (vs i) = some g2 from by rw [HVI.out]; exact rowOf_pos hp2)
          have HCU := Lib.hid hcur2
          clear hrow hx hy hx' hmkl hown hro2 hcl2 hcl4 hlen hB4 hB2 hlt4 hlt2 hcur2 hne
          go_wp2_with fail
          refine wp_region_inv (R := Blw) (S := (fun w' => Below wr.heap.size wr w' ∧ w'.cell? ⟨p, 2, none⟩ = some (.slice (some ⟨g, 0, none⟩) n lc) ∧ w'.cell? ⟨g, i, none⟩ = some (.slice (some ⟨g2, 0, none⟩) m ca) ∧ w'.cell? ⟨mb, k, none⟩ = some (Value.int .i64 x) ∧ w'.cell? ⟨g2, k, none⟩ = some (Value.int .i64 y) ∧ w'.frozen? ⟨g2, k, none⟩ = false)) 13 (Spec.val ?_ :: Spec.val ?_ :: Spec.val ?_ :: Spec.val ?_ :: Spec.val ?_ :: Spec.val ?_ :: Spec.val ?_ :: Spec.val ?_ :: Spec.val ?_ :: Spec.val ?_ :: Spec.val ?_ :: Spec.val ?_ :: Spec.val ?_ :: []) (by kernel_rfl) (by kernel_rfl) rfl (fun w1 w2 h hb => ⟨chain h.1 hb, cell_step h.2.1 hb, cell_step h.2.2.1 hb, cell_step h.2.2.2.1 hb, cell_step h.2.2.2.2.1 hb, (frozen_step (World.block_lt_of_cell? _ _ h.2.2.2.2.1) hb).trans h.2.2.2.2.2⟩) (⟨(Below.refl _ _).drew, c2, hcell, hx4, hold, hfr⟩) ?hm10
          case' hm10 => skip
          refine inv_val (i := 0) (by kernel_rfl) rfl rfl (fun w1 hS hd K hK => ?_) ?_
          · (try dsimp only at hS); go_simp; exact hK.out _ _ (by simp only [Act.put, List.setIfInBounds_toArray, List.set_cons_zero, List.set_cons_succ, List.nil_append, List.cons_append]; rfl) (Below.refl _ _)
          simp only [Act.put, List.setIfInBounds_toArray, List.set_cons_zero, List.set_cons_succ, List.nil_append, List.cons_append]
          refine inv_val (i := 1) (by kernel_rfl) rfl rfl (fun w1 hS hd K hK => ?_) ?_
          · (try dsimp only at hS); go_simp; exact hK.out _ _ (by simp only [Act.put, List.setIfInBounds_toArray, List.set_cons_zero, List.set_cons_succ, List.nil_append, List.cons_append]; rfl) (Below.refl _ _)
          simp only [Act.put, List.setIfInBounds_toArray, List.set_cons_zero, List.set_cons_succ, List.nil_append, List.cons_append]
          refine inv_val (i := 2) (by kernel_rfl) rfl rfl (fun w1 hS hd K hK => ?_) ?_
          · (try dsimp only at hS); go_simp; exact hK.out _ _ (by simp only [Act.put, List.setIfInBounds_toArray, List.set_cons_zero, List.set_cons_succ, List.nil_append, List.cons_append]; rfl) (Below.refl _ _)
          simp only [Act.put, List.setIfInBounds_toArray, List.set_cons_zero, List.set_cons_succ, List.nil_append, List.cons_append]
          refine inv_val (i := 3) (by kernel_rfl) rfl rfl (fun w1 hS hd K hK => ?_) ?_
          · (try dsimp only at hS); go_simp; exact hK.out _ _ (by simp only [Act.put, List.setIfInBounds_toArray, List.set_cons_zero, List.set_cons_succ, List.nil_append, List.cons_append]; rfl) (Below.refl _ _)
          simp only [Act.put, List.setIfInBounds_toArray, List.set_cons_zero, List.set_cons_succ, List.nil_append, List.cons_append]
          refine inv_val (i := 4) (by kernel_rfl) rfl rfl (fun w1 hS hd K hK => ?_) ?_
          · (try dsimp only at hS); go_simp; exact hK.out _ _ (by simp only [Act.put, List.setIfInBounds_toArray, List.set_cons_zero, List.set_cons_succ, List.nil_append, List.cons_append]; rfl) (Below.refl _ _)
          simp only [Act.put, List.setIfInBounds_toArray, List.set_cons_zero, List.set_cons_succ, List.nil_append, List.cons_append]
          refine inv_val (i := 5) (by kernel_rfl) rfl rfl (fun w1 hS hd K hK => ?_) ?_
          · (try dsimp only at hS); go_simp; exact hK.out _ _ (by simp only [Act.put, List.setIfInBounds_toArray, List.set_cons_zero, List.set_cons_succ, List.nil_append, List.cons_append]; rfl) (Below.refl _ _)
          simp only [Act.put, List.setIfInBounds_toArray, List.set_cons_zero, List.set_cons_succ, List.nil_append, List.cons_append]
          refine inv_val (i := 6) (by kernel_rfl) rfl rfl (fun w1 hS hd K hK => ?_) ?_
          · (try dsimp only at hS); go_simp; exact hK.out _ _ (by simp only [Act.put, List.setIfInBounds_toArray, List.set_cons_zero, List.set_cons_succ, List.nil_append, List.cons_append]; rfl) (Below.refl _ _)
          simp only [Act.put, List.setIfInBounds_toArray, List.set_cons_zero, List.set_cons_succ, List.nil_append, List.cons_append]
          refine inv_val (i := 7) (by kernel_rfl) rfl rfl (fun w1 hS hd K hK => ?_) ?_
          · (try dsimp only at hS); go_simp; exact hK.out _ _ (by simp only [Act.put, List.setIfInBounds_toArray, List.set_cons_zero, List.set_cons_succ, List.nil_append, List.cons_append]; rfl) (Below.refl _ _)
          simp only [Act.put, List.setIfInBounds_toArray, List.set_cons_zero, List.set_cons_succ, List.nil_append, List.cons_append]
          refine inv_val (i := 8) (by kernel_rfl) rfl rfl (fun w1 hS hd K hK => ?_) ?_
          · (try dsimp only at hS); go_simp; exact hK.out _ _ (by simp only [Act.put, List.setIfInBounds_toArray, List.set_cons_zero, List.set_cons_succ, List.nil_append, List.cons_append]; rfl) (Below.refl _ _)
          simp only [Act.put, List.setIfInBounds_toArray, List.set_cons_zero, List.set_cons_succ, List.nil_append, List.cons_append]
          refine inv_val (i := 9) (by kernel_rfl) rfl rfl (fun w1 hS hd K hK => ?_) ?_
          · (try dsimp only at hS); go_simp; exact hK.out _ _ (by simp only [Act.put, List.setIfInBounds_toArray, List.set_cons_zero, List.set_cons_succ, List.nil_append, List.cons_append]; rfl) (Below.refl _ _)
          simp only [Act.put, List.setIfInBounds_toArray, List.set_cons_zero, List.set_cons_succ, List.nil_append, List.cons_append]
          refine inv_val (i := 10) (by kernel_rfl) rfl rfl (fun w1 hS hd K hK => ?_) ?_
          · (try dsimp only at hS); go_simp; exact hK.out _ _ (by simp only [Act.put, List.setIfInBounds_toArray, List.set_cons_zero, List.set_cons_succ, List.nil_append, List.cons_append]; rfl) (Below.refl _ _)
          simp only [Act.put, List.setIfInBounds_toArray, List.set_cons_zero, List.set_cons_succ, List.nil_append, List.cons_append]
          refine inv_val (i := 11) (by kernel_rfl) rfl rfl (fun w1 hS hd K hK => ?_) ?_
          · (try dsimp only at hS); go_simp; exact hK.out _ _ (by simp only [Act.put, List.setIfInBounds_toArray, List.set_cons_zero, List.set_cons_succ, List.nil_append, List.cons_append]; rfl) (Below.refl _ _)
          simp only [Act.put, List.setIfInBounds_toArray, List.set_cons_zero, List.set_cons_succ, List.nil_append, List.cons_append]
          refine inv_val (i := 12) (by kernel_rfl) rfl rfl (fun w1 hS hd K hK => ?_) ?_
          · (try dsimp only at hS); go_simp; exact hK.out _ _ (by simp only [Act.put, List.setIfInBounds_toArray, List.set_cons_zero, List.set_cons_succ, List.nil_append, List.cons_append]; rfl) (Below.refl _ _)
          simp only [Act.put, List.setIfInBounds_toArray, List.set_cons_zero, List.set_cons_succ, List.nil_append, List.cons_append]
          refine inv_tail1 (by kernel_rfl) rfl (fun w3 hS hd => ?_)
          obtain ⟨hb3, d2, d3, d4, d5, d6⟩ := hS
          have HB3 := Lib.hid hb3
          clear hb3 hd
          go_wp2
          have HT := Lib.hid (TStep.row (e := 3) (w := w3) (w' := w3.setCell ⟨g2, k, none⟩ (Value.int .i64 x)) (by simp) (heap_step HCU.out HB3.out) (fun j _ hj => set_heap_other _ hj))
          have HO3 := Lib.hid (OwnL.set (HOW.out.below HB3.out) HVI.out hkm (show (Value.int .i64 x).oneCell' = true from rfl))
          have HB5 := Lib.hid (BK_i.turn (ms := putK_i ls i (k + 1)) (HB2.out.below HB3.out) hlt (w' := w3.setCell ⟨g2, k, none⟩ (Value.int .i64 x)) (by
              rw [putK_len_i, putK_succ_i (by rw [← HM.out]; exact hkm), List.map_set, ← HM.out, ← HX.out]
              exact HO3.out) (fun j hj => putK_other_i hj) ⟨by rw [putK_len_i, ← HM.out]; exact hl5, fun z hz => by
              rw [putK_succ_i (by rw [← HM.out]; exact hkm)] at hz
              rcases List.mem_or_eq_of_mem_set hz with hz | hz
              · exact HB2.out.ok i hlt z hz
              · rw [hz, ← HM.out]; exact marksI_ok i 0 m hi300 (by omega) (by omega) _ (by rw [List.getD_eq_getElem?_getD, List.getElem?_eq_getElem (by rw [marksI_len]; exact hkm)]; exact List.getElem_mem _)⟩ HT.out
              (fun j _ hj => set_heap_other _ (fun e => hj (by rw [HRO.out]; exact congrArg some e.symm))))
          go_roundw
          case rel => exact ⟨k + 1, hkm, by go_num, HB5, Lib.hid ⟨bel_set (HS2.out.1.trans (HB3.out.mono HB2.out.base)) (by have := (HOW.out.lt HRO.out).1; exact this), TStep.trans (TStep.trans HS2.out.2 (TStep.below HB3.out)) HT.out⟩, Lib.hid ((HM2.out.below HB3.out).frame (fun j hj => set_heap_other _ (by
            have e : mb = j := by rw [rowOf_pos (by omega)] at hj; exact Option.some.inj hj
            have := HNE.out; have := HB4.out
            intro e2; dsimp only at e2; omega))), by have := HB3.out.size; simp; omega⟩
          case measure => simp [intOf]; omega
        · obtain rfl : k = m := by omega
          go_wp2
          go_roundw
          case rel => exact ⟨i + 1, hlt, by go_num, Lib.hid (by rw [← putK_last_i, ← HM.out]; exact HB2.out), HS2⟩
          case measure => simp [intOf]; omega
    · obtain rfl : i = n := by omega
      go_wp2
      go_end0
      exact ⟨rfl, HB.out.same (fun j hj => by unfold putL_i; rw [if_pos hj]), HS.out⟩
end Go.Proofs.Ytaenpcglaenlaaa
